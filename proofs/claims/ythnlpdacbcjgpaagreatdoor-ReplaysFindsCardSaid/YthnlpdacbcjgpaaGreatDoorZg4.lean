/- Texts of the proof, put together and shortened. No condition. -/
import Derived.Test.YthnlpdacbcjgpaaGreatDoorZg3
set_option maxRecDepth 100000
set_option maxHeartbeats 16000000
set_option linter.unusedVariables false
set_option linter.unusedSectionVars false
set_option linter.unusedSimpArgs false
namespace Go.Proofs.YthnlpdacbcjgpaaGreatDoor
variable (Fr : Nat → Prop) (w : World)
namespace Scr
open Go Vg T Api LibC
theorem pB(u:Nat)(h:u<10):(UInt8.ofNat (48+u)).toNat=48+u:=by
 have:(48+u) % 256=48+u:=Nat.mod_eq_of_lt yd
 simp[this]
theorem nB:∀u:Nat,∀c∈Lib.decDigits u,48≤c.toNat∧c.toNat≤57:=fun u=>by
 induction u using Nat.strongRecOn with
 | _ u ih=>
  intro c hc
  rw[Lib.decDigits] at hc
  split at hc
  ·rename_i h
   simp only[Z7] at hc;subst hc
   rw[pB u h];omega
  ·rename_i h
   rcases ZY.1 hc with hc | hc
   ·exact ih (u / 10) yd c hc
   ·simp only[Z7] at hc;subst hc
    rw[pB _ yd];omega
theorem xW(u:Nat):Lib.decDigits u≠[]:=fun h=>by
 have:=Lib.decDigits_length u
 rw[h] at this
 have:=Lib.nDigits_pos u
 simp at *;omega
theorem xX:∀(l r:List UInt8) (acc v:Nat),Lib.parseUint10 acc l=.ok v→Lib.parseUint10 acc (l++r)=Lib.parseUint10 v r
 | [],r,acc,v,h=>by
  rw[Lib.parseUint10] at h
  injection h with h
  rw[List.nil_append,h]
 | c::l,r,acc,v,h=>by
  rw[Lib.parseUint10] at h
  rw[List.cons_append,Lib.parseUint10]
  split at h
  ·rename_i h1
   rw[if_pos h1]
   split at h
   ·cases h
   ·rename_i h2
    rw[if_neg h2]
    split at h
    ·cases h
    ·rename_i h3
     rw[if_neg h3]
     exact xX l r _ v h
  ·cases h
theorem Av:∀u:Nat,u<18446744073709551616→Lib.parseUint10 0 (Lib.decDigits u)=.ok u:=fun u=>by
 induction u using Nat.strongRecOn with
 | _ u ih=>
  intro hu
  rw[Lib.decDigits]
  split
  ·rename_i h
   rw[Lib.parseUint10,pB u h,if_pos yd,if_neg yd,if_neg yd,Lib.parseUint10]
   congr 1;omega
  ·rename_i h
   have h1:=ih (u / 10) yd yd
   rw[xX _ _ _ _ h1,Lib.parseUint10,pB _ yd,if_pos yd,if_neg yd,if_neg yd,Lib.parseUint10]
   congr 1;omega
theorem vC{u:Nat}(hu:u<18446744073709551616):Lib.parseMag (Lib.decDigits u)=.ok u:=by
 unfold Lib.parseMag
 rw[if_neg (xW u),Av u hu]
theorem G6{n:Int}(h:pA n):numOf (gJ n)=some n:=by
 obtain⟨h1,h2⟩:=h
 have hd:(gJ n).data.toList=Lib.itoa n:=by simp[gJ]
 unfold numOf
 rw[hd]
 unfold Lib.itoa
 by_cases hn:n<0
 ·rw[if_pos hn,Lib.atoiAll_minus,vC yd]
  simp only[Lib.signed]
  rw[if_neg yd]
  simp only
  congr 1;omega
 ·rw[if_neg hn]
  cases hc:Lib.decDigits n.toNat with
  | nil=>exact(xW _ hc).elim
  | cons c r=>
   have hr:=nB n.toNat c (by rw[hc];simp)
   rw[Lib.atoiAll_plain c r yd yd,←hc,vC yd]
   simp only[Lib.signless]
   rw[if_neg yd]
   simp only
   congr 1;omega
theorem vD{n:Int}(h:pA n):jN (gJ n)=some n:=by
 unfold jN;rw[G6 h];exact if_pos rfl
theorem FE{n:Nat}(h:n<16):val (Ap n)=n:=by
 have:∀n:Fin 16,val (Ap n.val)=(n.val:Int):=by decide +kernel
 exact this ⟨n,h⟩
theorem Ci:∀l:List UInt8,uf (mA l)=some l
 | []=>rfl
 | b::l=>by
  have hb:=b.toNat_lt
  have e:mA (b::l)=Ap (b.toNat / 16)::Ap (b.toNat % 16)::mA l:=rfl
  rw[e,uf,FE yd,FE yd,if_neg yd,Ci l]
  simp only[Option.map_some,ZU]
  rw[show 16*(b.toNat / 16)+b.toNat % 16=b.toNat by omega]
  simp
theorem Ji(t:ByteArray):oV (pO t)=some t:=by
 unfold oV
 rw[rQ]
 simp only
 rw[Ci]
 simp[mz]
theorem index_first{c:UInt8}:∀{w r:List UInt8},c∉w→Lib.index (w++c::r) [c]=w.length
 | [],r,_=>by rw[List.nil_append,Lib.index,if_pos (by simp[List.isPrefixOf])];rfl
 | b::w,r,h=>by
  have hb:¬c=b:=fun e=>h (by simp[e])
  have ih:=index_first (w:=w) (r:=r) fun hm=>h (List.mem_cons_of_mem _ hm)
  rw[List.cons_append,Lib.index,if_neg (by simp[List.isPrefixOf,hb]),ih,if_neg yf]
  simp
theorem tM{c:UInt8}:∀{ws:List (List UInt8)} {w0:List UInt8},c∉w0→(∀w∈ws,c∉w)→Lib.splitK [c] 0 ws.length (w0++ws.flatMap (c :: ·))=w0::ws
 | [],w0,h0,_=>by simp[Lib.splitK]
 | w1::ws,w0,h0,h=>by
  have ih:=tM (ws:=ws) (w0:=w1) (h w1 yf) fun w hw=>h w (by simp[hw])
  rw[List.flatMap_cons,List.cons_append,ZW]
  unfold Lib.splitK
  rw[index_first h0,if_neg yf]
  simp only[ZU,ZW,List.length_nil,Nat.add_zero,ZQ]
  rw[List.take_left,←List.drop_drop,List.drop_left]
  simp only[List.drop_succ_cons,List.drop_zero]
  rw[ih]
theorem vE{c:UInt8}:∀{ws:List (List UInt8)} {w0:List UInt8},c∉w0→(∀w∈ws,c∉w)→(w0++ws.flatMap (c :: ·)).count c=ws.length
 | [],w0,h0,_=>by simpa using List.count_eq_zero.2 h0
 | w1::ws,w0,h0,h=>by
  have ih:=vE (ws:=ws) (w0:=w1) (h w1 yf) fun w hw=>h w (by simp[hw])
  rw[List.flatMap_cons,List.count_append,List.count_eq_zero.2 h0,List.cons_append,List.count_cons_self,ih]
  simp
theorem Aw{ws:List ByteArray}{w0:ByteArray}(h0:(32:UInt8)∉w0.data.toList)(h:∀w∈ws,(32:UInt8)∉w.data.toList):gR (bY (w0.data.toList++ws.flatMap (fun w=>32::w.data.toList)))=w0::ws:=by
 have hm:∀w∈ws.map (fun w=>w.data.toList),(32:UInt8)∉w:=fun w hw=>by
  obtain⟨x,hx,rfl⟩:=Z0.1 hw
  exact h x hx
 have hf:ws.flatMap (fun w=>(32:UInt8)::w.data.toList)=(ws.map (fun w=>w.data.toList)).flatMap ((32:UInt8) :: ·):=by rw[List.flatMap_map]
 have hc:Lib.countB (bY (w0.data.toList++ws.flatMap (fun w=>32::w.data.toList))) As=ws.length:=by
  show Lib.count (bY _).data.toList [32]=_
  rw[fR,Lib.count_one,hf,vE h0 hm,ZR]
 have hd:=Lib.splitB_data As 0 ws.length (bY (w0.data.toList++ws.flatMap (fun w=>32::w.data.toList)))
 rw[show As.data.toList=[32] from rfl,fR,hf,show ws.length=(ws.map (fun w=>w.data.toList)).length by simp,tM h0 hm] at hd
 unfold gR
 rw[hc,hf]
 rw[ZR] at hd
 have inj:∀{a b:List ByteArray},a.map (fun w=>w.data.toList)=b.map (fun w=>w.data.toList)→a=b:=by
  intro a
  induction a with
  | nil=>intro b hb;cases b with
   | nil=>rfl
   | cons y b=>cases hb
  | cons x a ih=>intro b hb;cases b with
   | nil=>cases hb
   | cons y b=>
    rw[List.map_cons,List.map_cons] at hb
    injection hb with h1 h2
    rw[ih h2,←mz x,h1,mz]
 exact inj (by rw[hd];rfl)
end Scr
namespace Scr
open Go Vg T Api LibC
def ZE(x:cn)(o:fe):cn:={ x with op:=o }
def G7(d x:cn)(c:UInt8):cn:=if c=97 then sA x d.a else if c=98 then sB x d.b else if c=99 then SW x d.c else ZE x d.op
def eG(d:cn):cn:=(aZ d.kind.toNat).foldl (G7 d) { oW with kind:=d.kind }
def Ep(d:cn)(c:UInt8):List ByteArray:=if c=97 then [gJ d.a] else if c=98 then [gJ d.b] else if c=99 then [gJ d.c] else [gJ d.op.kind,gJ d.op.version,pO d.op.key,pO d.op.value]
def p7(d:cn):List ByteArray:=(aZ d.kind.toNat).flatMap (Ep d)
theorem sS(d:cn):(p7 d).flatMap (fun w=>32::w.data.toList)=p6 d:=by
 unfold p7 p6
 rw[List.flatMap_assoc]
 congr 1
 funext c
 unfold Ep kS
 split
 ·simp[j_,gJ]
 split
 ·simp[j_,gJ]
 split
 ·simp[j_,gJ]
 ·simp[j_,gJ,rQ]
theorem km{c:UInt8}(hc:c=32∨c=10)(n:Int):c∉(gJ n).data.toList:=fun h=>by
 have hd:(gJ n).data.toList=Lib.itoa n:=by simp[gJ]
 rw[hd] at h
 have key:∀u,c∉Lib.decDigits u:=fun u hu=>by
  have:=nB u c hu
  rcases hc with rfl | rfl<;>simp at this
 unfold Lib.itoa at h
 split at h
 ·rcases ZV.1 h with h | h
  ·rcases hc with rfl | rfl<;>cases h
  ·exact key _ h
 ·exact key _ h
theorem Jj:∀n,n<16→Ap n≠32∧Ap n≠10:=by decide +kernel
theorem xY{c:UInt8}(hc:c=32∨c=10)(t:ByteArray):c∉(pO t).data.toList:=fun h=>by
 rw[rQ] at h
 rcases ZV.1 h with h | h
 ·rcases hc with rfl | rfl<;>cases h
 ·obtain⟨b,_,hb⟩:=List.mem_flatMap.1 h
  have h256:=b.toNat_lt
  have d1:=Jj (b.toNat / 16) yd
  have d2:=Jj (b.toNat % 16) yd
  simp only[ZV,List.not_mem_nil,or_false] at hb
  rcases hc with rfl | rfl<;>rcases hb with hb | hb
  ·exact d1.1 hb.symm
  ·exact d2.1 hb.symm
  ·exact d1.2 hb.symm
  ·exact d2.2 hb.symm
theorem vF{c:UInt8}(hc:c=32∨c=10)(d:cn):∀w∈p7 d,c∉w.data.toList:=fun w hw=>by
 obtain⟨u,_,hu⟩:=List.mem_flatMap.1 hw
 unfold Ep at hu
 split at hu
 ·simp only[Z7] at hu;subst hu;exact km hc _
 split at hu
 ·simp only[Z7] at hu;subst hu;exact km hc _
 split at hu
 ·simp only[Z7] at hu;subst hu;exact km hc _
 ·simp only[ZV,List.not_mem_nil,or_false] at hu
  rcases hu with rfl | rfl | rfl | rfl
  ·exact km hc _
  ·exact km hc _
  ·exact xY hc _
  ·exact xY hc _
theorem vG:∀k,k<12→(32:UInt8)∉dD k∧(10:UInt8)∉dD k:=by decide +kernel
theorem Cj:∀k,k<12→1≤k→cN (bY (dD k)) 11=k:=by decide +kernel
theorem mB{f:cn→Int→cn}{d:cn}{n:Int}{r:List ByteArray}(h:pA n):takeN f (d,gJ n::r,false)=(f d n,r,false):=by
 unfold takeN
 simp only[List.headD_cons,List.tail_cons,vD h]
 rfl
theorem xZ{f:cn→ByteArray→cn}{d:cn}{t:ByteArray}{r:List ByteArray}:lB f (d,pO t::r,false)=(f d t,r,false):=by
 unfold lB
 simp only[List.headD_cons,List.tail_cons,Ji]
 rfl
theorem Jk{d x:cn}(h:d.Ok)(c:UInt8)(r:List ByteArray):kI (x,Ep d c++r,false) c=(G7 d x c,r,false):=by
 unfold kI Ep G7
 split
 ·exact mB h.a
 split
 ·exact mB h.b
 split
 ·exact mB h.c
 ·show lB G4 (lB G3 (takeN RM (takeN RJ (x,gJ d.op.kind::gJ d.op.version::pO d.op.key::pO d.op.value::r,false))))=_
  rw[mB h.Ky,mB h.Pe,xZ,xZ]
  rfl
theorem Ck{d:cn}(h:d.Ok):∀(U:List UInt8) (x:cn),U.foldl kI (x,U.flatMap (Ep d),false)=(U.foldl (G7 d) x,[],false)
 | [],x=>rfl
 | c::U,x=>by
  rw[List.flatMap_cons,List.foldl_cons,Jk h,Ck h U];rfl
theorem G8{d:cn}(h:d.Ok)(hk:lS d.kind=true):rP (bY (dD d.kind.toNat++p6 d))=some (eG d):=by
 obtain⟨k,hk0,hk1,hk2⟩:=nA hk
 have hkn:d.kind.toNat=k:=by rw[hk0];rfl
 have hs:gR (bY (dD k++p6 d))=bY (dD k)::p7 d:=by
  have:=Aw (w0:=bY (dD k)) (ws:=p7 d) (by rw[fR];exact(vG k yd).1) (vF (.inl rfl) d)
  rw[fR,sS] at this
  exact this
 rw[hkn]
 unfold rP
 rw[hs]
 show(if cN (bY (dD k)) 11=0 then none else if ((aZ (cN (bY (dD k)) 11)).foldl kI (({ oW with kind:=(cN (bY (dD k)) 11:Nat) }:cn),p7 d,false)).2.2 || !((aZ (cN (bY (dD k)) 11)).foldl kI (({ oW with kind:=(cN (bY (dD k)) 11:Nat) }:cn),p7 d,false)).2.1.isEmpty then none else some ((aZ (cN (bY (dD k)) 11)).foldl kI (({ oW with kind:=(cN (bY (dD k)) 11:Nat) }:cn),p7 d,false)).1)=_
 rw[Cj k yd hk1,if_neg yd]
 unfold p7 eG
 rw[hkn,Ck h,hk0]
 rfl
theorem pC{w r:List UInt8}(h:(10:UInt8)∉w):Lib.cut (w++10::r) [10]=(w,r,true):=by
 unfold Lib.cut
 rw[index_first h,if_pos yd]
 simp only[ZU,ZW,List.length_nil,ZQ]
 rw[List.take_left,←List.drop_drop,List.drop_left]
 rfl
theorem qF{d:cn}(hk:lS d.kind=true):(10:UInt8)∉dD d.kind.toNat++p6 d:=fun h=>by
 obtain⟨k,hk0,hk1,hk2⟩:=nA hk
 have hkn:d.kind.toNat=k:=by rw[hk0];rfl
 rcases ZY.1 h with h | h
 ·rw[hkn] at h;exact(vG k yd).2 h
 ·rw[←sS] at h
  obtain⟨w,hw,hh⟩:=List.mem_flatMap.1 h
  rcases ZV.1 hh with hh | hh
  ·cases hh
  ·exact vF (.inr Z) d w hw hh
def x_(l:List cn):List cn:=(l.filter fun d=>lS d.kind).map eG
theorem vH:∀{l:List cn} {f:Nat} {acc:List cn},(∀d∈l,d.Ok)→(jO l).length<f→Au f (jO l) acc=(acc++x_ l,0,0)
 | [],f,acc,_,hf=>by
  obtain⟨f,rfl⟩:∃k,f=k+1:=⟨f-1,by omega⟩
  rw[Au,if_pos (show jO []=[] from rfl)];simp[x_]
 | d::l,f,acc,hok,hf=>by
  have hok2:∀d∈l,d.Ok:=fun d hd=>hok d (by simp[hd])
  have e:jO (d::l)=kH d++jO l:=rfl
  cases hk:lS d.kind with
  | false=>
   have e0:kH d=[]:=by unfold kH;rw[hk];rfl
   rw[e,e0,List.nil_append] at hf ⊢
   rw[vH hok2 hf]
   simp[x_,hk]
  | true=>
   have e1:kH d++jO l=(dD d.kind.toNat++p6 d)++10::jO l:=by unfold kH;rw[hk];simp
   obtain⟨f,rfl⟩:∃k,f=k+1:=⟨f-1,by omega⟩
   rw[e,e1] at hf ⊢
   rw[Au,if_neg yf,pC (qF hk)]
   simp only[if_true]
   rw[G8 (hok d yf) hk]
   simp only
   rw[vH hok2 (by simp only[ZM,ZW] at hf;omega)]
   simp[x_,hk]
theorem N1{l:List cn}(hok:∀d∈l,d.Ok):getM (bY (jO l))=(x_ l,0,0):=by
 unfold getM
 rw[fR,aQ,vH hok yd];rfl
theorem vI(d:cn):(eG d).kind=d.kind:=by
 have:∀(U:List UInt8) (x:cn),(U.foldl (G7 d) x).kind=x.kind:=by
  intro U
  induction U with
  | nil=>intro x;rfl
  | cons c U ih=>
   intro x
   rw[List.foldl_cons,ih]
   unfold G7
   split
   ·rfl
   split
   ·rfl
   split
   ·rfl
   ·rfl
 exact this _ _
end Scr
namespace Scr
open Go Vg T Api LibC
theorem G9(o:fe):En o o=true:=by simp[En]
end Scr
namespace Scr
open Go Vg T Api LibC
def sT:List UInt8:=[32,61,32]
theorem QP(n:Int):(61:UInt8)∉Lib.itoa n:=fun h=>by
 have key:∀u,(61:UInt8)∉Lib.decDigits u:=fun u hu=>by
  have:=nB u 61 hu
  simp at this
 unfold Lib.itoa at h
 split at h
 ·rcases ZV.1 h with h | h
  ·cases h
  ·exact key _ h
 ·exact key _ h
theorem N2(n:Int):(10:UInt8)∉Lib.itoa n:=fun h=>km (.inr rfl) n (by simpa[gJ] using h)
theorem Jl:∀n,n<16→Ap n≠61:=by decide +kernel
theorem Jm(t:ByteArray):(61:UInt8)∉(pO t).data.toList:=fun h=>by
 rw[rQ] at h
 rcases ZV.1 h with h | h
 ·cases h
 ·obtain⟨b,_,hb⟩:=List.mem_flatMap.1 h
  have h256:=b.toNat_lt
  have d1:=Jl (b.toNat / 16) yd
  have d2:=Jl (b.toNat % 16) yd
  simp only[ZV,List.not_mem_nil,or_false] at hb
  rcases hb with hb | hb
  ·exact d1 hb.symm
  ·exact d2 hb.symm
theorem N3(d:cn):∀w∈p7 d,(61:UInt8)∉w.data.toList:=fun w hw=>by
 have hn:∀n,(61:UInt8)∉(gJ n).data.toList:=fun n h=>QP n (by simpa[gJ] using h)
 obtain⟨u,_,hu⟩:=List.mem_flatMap.1 hw
 unfold Ep at hu
 split at hu
 ·simp only[Z7] at hu;subst hu;exact hn _
 split at hu
 ·simp only[Z7] at hu;subst hu;exact hn _
 split at hu
 ·simp only[Z7] at hu;subst hu;exact hn _
 ·simp only[ZV,List.not_mem_nil,or_false] at hu
  rcases hu with rfl | rfl | rfl | rfl
  ·exact hn _
  ·exact hn _
  ·exact Jm _
  ·exact Jm _
theorem N4:∀k,k<12→(61:UInt8)∉dD k:=by decide +kernel
def gp(d:cn):List UInt8:=dD d.kind.toNat++p6 d
theorem step_eq{d:cn}(hk:lS d.kind=true):(61:UInt8)∉gp d:=fun h=>by
 obtain⟨k,hk0,hk1,hk2⟩:=nA hk
 have hkn:d.kind.toNat=k:=by rw[hk0];rfl
 rcases ZY.1 h with h | h
 ·rw[hkn] at h;exact N4 k yd h
 ·rw[←sS] at h
  obtain⟨w,hw,hh⟩:=List.mem_flatMap.1 h
  rcases ZV.1 hh with hh | hh
  ·cases hh
  ·exact N3 d w hw hh
theorem sU{d:cn}(hk:lS d.kind=true):kH d=gp d ++ [10]:=by
 unfold kH gp
 rw[hk];simp
theorem yA:∀{w r:List UInt8},(61:UInt8)∉w→Lib.index (w++(sT++r)) sT=w.length
 | [],r,_=>by
  rw[List.nil_append]
  show Lib.index (32::61::32::r) sT=_
  rw[Lib.index,if_pos (by simp[sT,List.isPrefixOf])];rfl
 | b::w,r,h=>by
  have ih:=yA (w:=w) (r:=r) fun hm=>h (List.mem_cons_of_mem _ hm)
  have hno:sT.isPrefixOf (b::(w++(sT++r)))=false:=by
   cases w with
   | nil=>
    show List.isPrefixOf [32,61,32] (b::32::61::32::r)=false
    simp[List.isPrefixOf]
   | cons x w=>
    have hx:¬(61:UInt8)=x:=fun e=>h (by simp[e])
    show List.isPrefixOf [32,61,32] (b::x::(w++(sT++r)))=false
    simp[List.isPrefixOf,hx]
  rw[List.cons_append,Lib.index,if_neg (by rw[hno];decide),ih,if_neg yf]
  simp
theorem FF{w r:List UInt8}(h:(61:UInt8)∉w):Lib.cut (w++(sT++r)) sT=(w,r,true):=by
 unfold Lib.cut
 rw[yA h,if_pos yd]
 simp only[ZU]
 rw[List.take_left,←List.drop_drop,List.drop_left]
 rfl
def jn(s:List UInt8):Option (cn×Int):=
 if (Lib.cut s sT).2.2 then match jN (bY (Lib.cut s sT).2.1) with
  | none=>none
  | some n=>if n<0∨99<n then none else match getM (bY ((Lib.cut s sT).1 ++ [10])) with
   | (l,_,e)=>if e≠0∨l.length≠1 then none else l.head?.map fun d=>(d,n)
 else none
def fS(p:cn×Int):List UInt8:=gp p.1++(sT++Lib.itoa p.2)
structure kJ(p:cn×Int):Prop where
 ok:p.1.Ok
 k:lS p.1.kind=true
 n0:0≤p.2
 n1:p.2≤99
theorem G_{p:cn×Int}(h:kJ p):jn (fS p)=some (eG p.1,p.2):=by
 obtain⟨h1,h2,h3,h4⟩:=h
 unfold jn fS
 rw[FF (step_eq h2),if_pos rfl]
 dsimp only
 have e1:jN (bY (Lib.itoa p.2))=some p.2:=vD ⟨by omega,by omega⟩
 rw[e1]
 dsimp only
 rw[if_neg yd]
 have e2:getM (bY (gp p.1 ++ [10]))=([eG p.1],0,0):=by
  have:=N1 (l:=[p.1]) fun d hd=>by rw[Z7.1 hd];exact h1
  have e3:jO [p.1]=gp p.1 ++ [10]:=by
   unfold jO
   rw[List.flatMap_cons,List.flatMap_nil,ZN,sU h2]
  rw[e3] at this
  rw[this]
  unfold x_
  rw[List.filter_cons,if_pos h2];rfl
 rw[e2]
 rfl
theorem tN{p:cn×Int}(h:lS p.1.kind=true):(10:UInt8)∉fS p:=fun hm=>by
 unfold fS at hm
 rcases ZY.1 hm with hm | hm
 ·exact qF h hm
 rcases ZY.1 hm with hm | hm
 ·revert hm;decide
 ·exact N2 _ hm
def dR:Nat→List UInt8→List (cn×Int)→Bool×List (cn×Int)
 | 0,_,x=>(true,x)
 | f+1,s,x=>if s=[] then (true,x) else if (Lib.cut s [10]).2.2 then match jn (Lib.cut s [10]).1 with
   | some p=>dR f (Lib.cut s [10]).2.1 (x ++ [p])
   | none=>(false,x)
  else (false,x)
def dp(l:List (cn×Int)):List UInt8:=l.flatMap fun p=>fS p ++ [10]
theorem sV:∀{l:List (cn×Int)} {f:Nat} {x:List (cn×Int)} {r:List UInt8},(∀p∈l,kJ p)→(dp l).length≤f→dR (f+r.length+1) (dp l++r) x=dR (f-(dp l).length+(dp l).length-l.length+r.length+1) r (x++l.map fun p=>(eG p.1,p.2))
 | [],f,x,r,_,_=>by simp[dp]
 | p::l,f,x,r,hok,hf=>by
  have e:dp (p::l)++r=fS p++10::(dp l++r):=by
   show(fS p ++ [10]++dp l)++r=_
   simp
  have hlen:(dp (p::l)).length=(fS p).length+1+(dp l).length:=by
   show(fS p ++ [10]++dp l).length=_
   simp only[ZM,ZW,List.length_nil]
  have hp:=hok p List.mem_cons_self
  have hl:l.length≤(dp l).length:=by
   clear e hlen hf hp hok
   induction l with
   | nil=>exact ZO _
   | cons q l ih=>
    show _≤(fS q ++ [10]++dp l).length
    simp;omega
  obtain⟨g,rfl⟩:∃g,f=g+1:=⟨f-1,by omega⟩
  rw[e,show g+1+r.length+1=(g+r.length+1)+1 by omega,dR,if_neg yf,pC (tN hp.k)]
  simp only[if_true]
  rw[G_ hp]
  dsimp only
  rw[sV (fun q hq=>hok q (List.mem_cons_of_mem _ hq)) yd]
  congr 1
  ·rw[ZW];omega
  ·simp
theorem sW{l:List (cn×Int)}(hok:∀p∈l,kJ p):dR ((dp l).length+1) (dp l) []=(true,l.map fun p=>(eG p.1,p.2)):=by
 have:=sV (r:=[]) (x:=[]) hok (NR (dp l).length)
 rw[ZN,List.length_nil,Nat.add_zero] at this
 rw[this,dR,if_pos rfl,List.nil_append]
end Scr
namespace Cl
open Go Vg T Api Ch Conf Rep
abbrev cn:=Scr.cn
def ka(d:cn):gn:=⟨d.kind,d.a,d.b,d.c,d.op⟩
theorem Cm{d:cn}{k:Nat}(hk:d.kind=k)(h1:1≤k)(h2:k≤11):(k≠3→k≠11→(Scr.eG d).a=d.a)∧(k=1∨k=4∨k=5∨k=6→(Scr.eG d).b=d.b∧(Scr.eG d).c=d.c)∧(k=1→(Scr.eG d).op=d.op):=by
 unfold Scr.eG
 rw[hk,ZU]
 have:k=1∨k=2∨k=3∨k=4∨k=5∨k=6∨k=7∨k=8∨k=9∨k=10∨k=11:=by omega
 rcases this with rfl | rfl | rfl | rfl | rfl | rfl | rfl | rfl | rfl | rfl | rfl
 all_goals refine⟨fun g1 g2=>?_,fun g=>?_,fun g=>?_⟩
 all_goals first | rfl | exact⟨rfl,rfl⟩ | exact absurd rfl g1 | exact absurd rfl g2 | (exfalso;omega)
theorem sX{d:cn}(hk:Scr.lS d.kind=true):B' (ka (Scr.eG d)) (ka d):=by
 obtain⟨k,hk0,hk1,hk2⟩:=Scr.nA hk
 obtain⟨g1,g2,g3⟩:=Cm hk0 hk1 hk2
 have e:(Scr.eG d).kind=k:=by rw[Scr.vI,hk0]
 refine⟨?_,fun h3 h11=>?_,fun h=>?_,fun h=>?_⟩
 ·show(Scr.eG d).kind=d.kind
  exact Scr.vI d
 ·have h3:(Scr.eG d).kind≠3:=h3
  have h11:(Scr.eG d).kind≠11:=h11
  rw[e] at h3 h11
  exact g1 yd yd
 ·have h:(Scr.eG d).kind=1∨(Scr.eG d).kind=4∨(Scr.eG d).kind=5∨(Scr.eG d).kind=6:=h
  rw[e] at h
  exact g2 yd
 ·have h:(Scr.eG d).kind=1:=h
  rw[e] at h
  exact g3 yd
def fA(C:av):List cn→List (cn×Int)
 | []=>[]
 | d::l=>(d,(C.jM (ka d)).2)::fA (C.jM (ka d)).1 l
def sY(C:av):Nat→List (cn×Int)→Int
 | _,[]=>0
 | i,(d,e)::l=>if (C.jM (ka d)).2=e then sY (C.jM (ka d)).1 (i+1) l else (i:Int)+1
theorem nC:∀{l:List cn} {C:av},(∀d∈l,d.Ok∧Scr.lS d.kind=true)→∀p∈fA C l,Scr.kJ p
 | [],_,_,p,hp=>by cases hp
 | d::l,C,h,p,hp=>by
  rcases ZV.1 hp with rfl | hp
  ·have h1:=h d List.mem_cons_self
   have h2:=I9 C (ka d)
   exact⟨h1.1,h1.2,h2.1,h2.2⟩
  ·exact nC (fun d hd=>h d (List.mem_cons_of_mem _ hd)) p hp
theorem iS:∀(l:List cn) (C:av),(fA C l).length=l.length
 | [],_=>rfl
 | d::l,C=>by
  show(fA _ l).length+1=l.length+1
  rw[iS l]
theorem Cn:∀(l:List cn) (C:av),(fA C l).map Prod.fst=l
 | [],_=>rfl
 | d::l,C=>by
  show d::(fA _ l).map Prod.fst=d::l
  rw[Cn l]
theorem Co:∀(l:List cn) (C:av) (i:Nat),(∀d∈l,Scr.lS d.kind=true)→sY C i ((fA C l).map fun p=>(Scr.eG p.1,p.2))=0
 | [],_,_,_=>rfl
 | d::l,C,i,h=>by
  have e:=(sX (h d List.mem_cons_self)).jM C
  show(if (C.jM (ka (Scr.eG d))).2=(C.jM (ka d)).2 then sY (C.jM (ka (Scr.eG d))).1 (i+1) ((fA (C.jM (ka d)).1 l).map _) else _)=0
  rw[e,if_pos rfl]
  exact Co l _ _ fun d hd=>h d (List.mem_cons_of_mem _ hd)
theorem Ha(l:List (cn×Int))(k:Nat):Scr.dp (l.take k)++Scr.dp (l.drop k)=Scr.dp l:=by
 unfold Scr.dp
 rw[←List.flatMap_append,List.take_append_drop]
end Cl
namespace Scr
open Go Vg T Api LibC
theorem Hb:∀k,k<12→(dD k).head?≠some 63:=by decide +kernel
theorem Hc(w:List UInt8):rP (bY (63::w))=none:=by
 unfold rP
 have hk:cN ((gR (bY (63::w))).headD cJ) 11=0:=by
  by_cases h:cN ((gR (bY (63::w))).headD cJ) 11=0
  ·exact h
  exfalso
  have h1:=xV h
  have hj:=sR ((gR (bY (63::w))).headD cJ) 11
  obtain⟨w0,ws,e1,e2⟩:=Cg (bY (63::w))
  rw[e1] at h1 hj
  rw[fR] at e2
  have h1:bY (dD (cN w0 11))=w0:=h1
  have h2:w0.data.toList=dD (cN w0 11):=by rw[←h1,fR,h1]
  have hj:cN w0 11≤11:=hj
  rw[h2] at e2
  cases hw:dD (cN w0 11) with
  | cons b r=>
   rw[hw] at e2
   have hb:b=63:=by
    have:=List.cons.inj e2
    exact this.1.symm
   exact Hb (cN w0 11) yd (by rw[hw,hb];rfl)
  | nil=>
   rw[hw,List.nil_append] at e2
   cases ws with
   | nil=>cases e2
   | cons x ws=>
    have:=(List.cons.inj e2).1
    cases this
 dsimp only
 rw[if_pos hk]
theorem Hd{p:cn×Int}(h:kJ p):jn (63::fS p)=none:=by
 obtain⟨h1,h2,h3,h4⟩:=h
 have e:(63::fS p)=(63::gp p.1)++(sT++Lib.itoa p.2):=rfl
 have hn:(61:UInt8)∉(63::gp p.1):=fun hm=>by
  rcases ZV.1 hm with hm | hm
  ·cases hm
  ·exact step_eq h2 hm
 have hn10:(10:UInt8)∉(63::gp p.1):=fun hm=>by
  rcases ZV.1 hm with hm | hm
  ·cases hm
  ·exact qF h2 hm
 unfold jn
 rw[e,FF hn,if_pos rfl]
 dsimp only
 have e1:jN (bY (Lib.itoa p.2))=some p.2:=vD ⟨by omega,by omega⟩
 rw[e1]
 dsimp only
 rw[if_neg yd]
 have e2:getM (bY ((63::gp p.1) ++ [10]))=([],1,10):=by
  unfold getM
  rw[fR,aQ,Au,if_neg yf,pC hn10]
  simp only[if_true]
  rw[Hc]
  rfl
 rw[e2]
 rfl
theorem He{pre:List (cn×Int)}{p:cn×Int}{r:List UInt8}(hok:∀q∈pre,kJ q)(hp:kJ p){f:Nat}(hf:(dp pre++63::(fS p++10::r)).length+1≤f):
  dR f (dp pre++63::(fS p++10::r)) []=(false,pre.map fun q=>(eG q.1,q.2)):=by
 rw[ZM] at hf
 obtain⟨g,rfl⟩:∃g,f=g+(63::(fS p++10::r)).length+1:=⟨f-(63::(fS p++10::r)).length-1,by omega⟩
 rw[sV hok yd,List.nil_append]
 have hn10:(10:UInt8)∉(63::fS p):=fun hm=>by
  rcases ZV.1 hm with hm | hm
  ·cases hm
  ·exact tN hp.k hm
 have e:63::(fS p++10::r)=(63::fS p)++10::r:=rfl
 rw[dR,if_neg yf,e,pC hn10]
 simp only[if_true]
 rw[Hd hp]
end Scr
namespace Cl
open Go Vg T Api Ch Conf Rep
theorem yB:∀{l:List cn} {C:av} {i k:Nat} {p:cn×Int} {n:Int},(fA C l)[k]?=some p→(∀d∈l,Scr.lS d.kind=true)→n≠p.2 →
  sY C i (((fA C l).set k (p.1,n)).map fun p=>(Scr.eG p.1,p.2))=((i+k:Nat):Int)+1
 | [],C,i,k,p,n,hk,_,_=>by cases hk
 | d::l,C,i,0,p,n,hk,h,hn=>by
  have hk:some (d,(C.jM (ka d)).2)=some p:=hk
  cases hk
  have e:=(sX (h d List.mem_cons_self)).jM C
  show(if (C.jM (ka (Scr.eG d))).2=n then _ else (i:Int)+1)=_
  rw[e,if_neg fun g=>hn g.symm,Nat.add_zero]
 | d::l,C,i,k+1,p,n,hk,h,hn=>by
  have hk:(fA (C.jM (ka d)).1 l)[k]?=some p:=hk
  have e:=(sX (h d List.mem_cons_self)).jM C
  show(if (C.jM (ka (Scr.eG d))).2=(C.jM (ka d)).2 then sY (C.jM (ka (Scr.eG d))).1 (i+1) (((fA (C.jM (ka d)).1 l).set k (p.1,n)).map _) else _)=_
  rw[e,if_pos rfl,yB hk (fun d hd=>h d (List.mem_cons_of_mem _ hd)) hn]
  omega
end Cl
namespace Scr
open Go Vg T Api LibC
attribute [local irreducible] VO VC VA
theorem qG{X:Cx}{e:Env}{t:TypeId}{z y:Operand}{s:ByteArray}{tt:TI}{j:Int}{k:IntKind}(hz:ev e z=some (.string s))(hy:ev e y=some (.int k j))(hT:aL X.tab t=some tt)(hu:tt.aU=.string)
  (h0:0≤j) (h2:j≤s.size):cY X (.slice t z none (some y) none) e (.string (s.extract 0 j.toNat)):=by
 intro a ha dst ty pos after guard w
 have hund:=hU (X.ok.look hT) hu
 have h:=run_slice_string_h (P:=X.P) w t s hund k j h0 h2
 simp only[execOp,ha.ev hz,ha.ev hy,Option.map]
 rw[Sem.run_bind,run_sliceAt_string w t _ _ _ _ hund]
 show((Instr.slice t (.string s) none (some (.int k j)) none).run X.P w).andThen _=_
 rw[h];rfl
theorem vJ{X:Cx}{e:Env}{t:TypeId}{z x:Operand}{s:ByteArray}{tt:TI}{i:Int}{k:IntKind}(hz:ev e z=some (.string s))(hx:ev e x=some (.int k i))(hT:aL X.tab t=some tt)(hu:tt.aU=.string)
  (h0:0≤i) (h2:i≤s.size):cY X (.slice t z (some x) none none) e (.string (s.extract i.toNat s.size)):=by
 intro a ha dst ty pos after guard w
 have hund:=hU (X.ok.look hT) hu
 have h:=run_slice_string_l (P:=X.P) w t s hund k i h0 h2
 simp only[execOp,ha.ev hz,ha.ev hx,Option.map]
 rw[Sem.run_bind,run_sliceAt_string w t _ _ _ _ hund]
 show((Instr.slice t (.string s) (some (.int k i)) none none).run X.P w).andThen _=_
 rw[h];rfl
def wX:ByteArray:=⟨#[10]⟩
theorem yC(w:List UInt8):(bY (w ++ [10])).extract 0 w.length=bY w:=ByteArray.ext TL
theorem Jn(w:List UInt8):(bY (w ++ [10])).extract w.length (w.length+1)=wX:=ByteArray.ext (by simp[bY,wX])
theorem Cp(t:List UInt8)(ht:t.length≤1000000):aH Tryz.prog 55 [.string (bY (t ++ [10])),.string wX] Fr w [] (fun v L=>v=.bool true∧L=[]):=by
 have hsz:(bY (t ++ [10])).size=t.length+1:=by rw[aQ];simp
 have hs1:wX.size=1:=rfl
 refine TF 21 Tryz.func55 Z yn ah Z Z ?_
 refine aJ ?_
 refine VG (VY 10 true Z (DT KD) ?_)
 refine aJ ?_
 refine VG (VO.zp Z Z KD KD ?_)
 refine VG (VI (vJ Z Z Z Z KD KD) ?_)
 have e:(bY (t ++ [10])).extract (((bY (t ++ [10])).size:Int)-(wX.size:Int)).toNat (bY (t ++ [10])).size=wX:=by
  rw[hsz,hs1,show(((t.length+1:Nat):Int)-((1:Nat):Int)).toNat=t.length by omega]
  exact Jn t
 rw[e]
 refine aJ ?_
 exact CR (ay.bool (b:=true) 4 Z Z (by rw[my];exact DT Z) ER ⟨rfl,Z⟩)
theorem Er(t:List UInt8)(ht:t.length≤1000000):aH Tryz.prog 35 [.string (bY (t ++ [10])),.string wX] Fr w [] (fun v L=>v=.string (bY t)∧L=[]):=by
 have hsz:(bY (t ++ [10])).size=t.length+1:=by rw[aQ];simp
 have hs1:wX.size=1:=rfl
 refine TF 16 Tryz.func35 Z yn ah Z Z ?_
 refine aJ ?_
 refine VG (VV (fun Fr w hF hw _=>Cp Fr w t ht) Z ?_)
 refine wI ?_
 refine VG (VO.zp Z Z KD KD ?_)
 refine VG (VI (qG Z Z Z Z KD KD) ?_)
 have e:(bY (t ++ [10])).extract 0 (((bY (t ++ [10])).size:Int)-(wX.size:Int)).toNat=bY t:=by
  rw[hsz,hs1,show(((t.length+1:Nat):Int)-((1:Nat):Int)).toNat=t.length by omega]
  exact yC t
 rw[e]
 refine aJ ?_
 exact PB
theorem Hf(t:List UInt8)(ht:t.length≤1000000):aH Tryz.prog 19 [.string (bY (t ++ [10])),.string wX] Fr w [] (fun v L=>v=.string (bY t)∧L=[]):=by
 refine TF 8 Tryz.func19 Z yn ah Z Z ?_
 refine aJ ?_
 refine VG (VV (fun Fr w hF hw _=>Er Fr w t ht) Z ?_)
 refine aJ ?_
 exact PB
end Scr
namespace Scr
open Go Vg T Api LibC
attribute [local irreducible] VO VC VA
def Y8:ByteArray:=⟨#[32,61,32]⟩
def Pf(s:List UInt8)(v:Value):Prop:=(∃d e,jn s=some (d,e)∧v=.tuple #[.agg (dV d).toArray,.int .i64 e,.bool true])∨(jn s=none∧v=.tuple #[.agg (dV oW).toArray,.int .i64 0,.bool false])
theorem wY(s:List UInt8)(hs:s.length≤900000)(hG:b9 Fr w)(hK:cy Fr w):aH Tryz.prog 24 [.string (bY s)] Fr w [] (fun v L=>Pf s v∧L=[]):=by
 have hcl:(Lib.cut s sT).1.length≤s.length∧(Lib.cut s sT).2.1.length≤s.length:=by
  unfold Lib.cut
  split
  ·rw[Z1,List.length_drop];omega
  ·simp
 refine TF 63 Tryz.func24 Z yn ah Z Z ?_
 refine CS (CG (VG (VO.alloc Z fun zb=>?_)))
 refine an ?_
 refine VG (VV (fun Fr w hF hw _=>oU Fr w (bY s) Y8 Pw (b9.st (X:=⟨Tryz.prog,tab,ah,63,_,_⟩) hG hF hw)) Z ?_)
 rw[fR,show Y8.data.toList=sT from rfl]
 have hr:jn s=if (Lib.cut s sT).2.2 then match jN (bY (Lib.cut s sT).2.1) with
  | none=>none
  | some n=>if n<0∨99<n then none else match getM (bY ((Lib.cut s sT).1 ++ [10])) with
   | (l,_,e)=>if e≠0∨l.length≠1 then none else l.head?.map fun d=>(d,n)
 else none:=rfl
 generalize Lib.cut s sT=c at hcl hr
 obtain⟨st,wd,fo⟩:=c
 dsimp only at hcl hr ⊢
 have eB:∀x:List UInt8,(⟨x.toArray⟩:ByteArray)=bY x:=fun _=>rfl
 rw[eB st,eB wd]
 refine an ?_
 cases fo with
 | false=>
  refine wF ?_
  refine R4 ?_
  refine Rt ?_
  refine an ?_
  exact Vs
 | true=>
 refine sk ?_
 rw[if_pos rfl] at hr
 refine an ?_
 refine VG (VK (Lc:=[]) (fun Fr w hF hw _=>xP Fr w (bY wd) Pw (b9.st (X:=⟨Tryz.prog,tab,ah,63,_,_⟩) hG hF hw)) Z Z ?_)
 rintro _ _ ⟨rfl,⟨n,hn,rfl⟩ | ⟨n,tp,p,hn,rfl⟩⟩
 rotate_left
 ·have hnr:jN (bY wd)=none:=by unfold jN;rw[hn]
  rw[hnr] at hr
  refine an ?_
  refine Yh ?_
  refine an ?_
  refine VG (VY 29 true Z Z ?_)
  refine eR ?_
  refine VG (VY 33 true Z Z ?_)
  refine eR ?_
  refine VG (VY 37 true Z Z ?_)
  refine eR ?_
  refine wF ?_
  refine R4 ?_
  refine Rt ?_
  refine an ?_
  exact Vs
 have hrg:=tJ hn
 have hnr:jN (bY wd)=if gJ n=bY wd then some n else none:=by unfold jN;rw[hn]
 rw[hnr] at hr
 refine an ?_
 refine Yg ?_
 refine an ?_
 refine VG (VY 29 false Z Z ?_)
 refine eR ?_
 have low:n<0∨99<n→jn s=none:=fun h=>by
  rw[hr]
  split
  ·rfl
  ·rename_i m hm
   by_cases e:gJ n=bY wd
   ·rw[if_pos e] at hm
    cases hm
    rw[if_pos h]
   ·rw[if_neg e] at hm;cases hm
 by_cases h0:n<0
 ·refine VG (VY 33 true Z (DT h0) ?_)
  refine eR ?_
  refine VG (VY 37 true Z Z ?_)
  refine eR ?_
  refine wF ?_
  refine R4 ?_
  refine Rt ?_
  refine an ?_
  exact CR (ay.uD 2 3 4 Z Z Z (aE.many (ds:=dV oW) 0 Z Z) Z Z ae.nil.ar ⟨.inr ⟨low (.inl h0),Z⟩,Z⟩)
 refine VG (VY 33 false Z (DF h0) ?_)
 refine eR ?_
 by_cases h9:99<n
 ·refine VG (VY 37 true Z (DT h9) ?_)
  refine eR ?_
  refine wF ?_
  refine R4 ?_
  refine Rt ?_
  refine an ?_
  exact CR (ay.uD 2 3 4 Z Z Z (aE.many (ds:=dV oW) 0 Z Z) Z Z ae.nil.ar ⟨.inr ⟨low (.inr h9),Z⟩,Z⟩)
 refine VG (VY 37 false Z (DF h9) ?_)
 refine eR ?_
 refine VG (VV (fun Fr w hF hw _=>iw Fr w n hrg.1 hrg.2 (sP.st Z hG.tab hF hw)) Z ?_)
 refine eR ?_
 refine CC Z (fun h1=>?_) (fun h1=>CK ?_)
 ·rw[my] at h1
  have h1:gJ n≠bY wd:=by simpa using h1
  rw[if_neg h1] at hr
  refine R4 ?_
  refine Rt ?_
  refine an ?_
  exact Vs
 rw[my] at h1
 have h1:gJ n=bY wd:=by simpa using h1
 rw[if_pos h1] at hr
 dsimp only at hr
 rw[if_neg yd] at hr
 refine an ?_
 refine VG (VI (bq Z Z Xr) ?_)
 rw[jD]
 refine VG (VK (Lc:=[]) (fun Fr w hF hw _=>Jg Fr w (bY (st ++ [10])) Xh (b9.st (X:=⟨Tryz.prog,tab,ah,63,_,_⟩) hG hF hw) (cy.st (X:=⟨Tryz.prog,tab,ah,63,_,_⟩) hK hF hw)) Z Z ?_)
 rintro _ _ ⟨ga,gc,rfl,rfl⟩
 generalize getM (bY (st ++ [10]))=g at hr
 obtain⟨l,ln,er⟩:=g
 dsimp only at hr ⊢
 refine an ?_
 by_cases he:er=0
 rotate_left
 ·rw[if_pos (.inl he)] at hr
  refine VG (VY 53 true Z (by simpa using he) ?_)
  refine eR ?_
  refine wF ?_
  refine CS (CG (VG (VL 1 (dV oW) Z Z Z Z ?_)))
  refine VG (VT (vs:=dV oW) (cs':=dV oW) 1 Z Z Z Z (NR _) Z Z Z ?_)
  refine an ?_
  exact Yo
 refine VG (VY 53 false Z (by simpa using he) ?_)
 refine eR ?_
 refine VC.bo Z (fun hl=>?_) (fun hl=>CK ?_)
 ·rw[if_pos (.inr yd)] at hr
  refine CS (CG (VG (VL 1 (dV oW) Z Z Z Z ?_)))
  refine VG (VT (vs:=dV oW) (cs':=dV oW) 1 Z Z Z Z (NR _) Z Z Z ?_)
  refine an ?_
  exact Yo
 rw[if_neg yd] at hr
 obtain⟨d,rfl⟩:=List.length_eq_one_iff.1 (show l.length=1 by omega)
 refine VC.e_ 0 Z (Go.Proofs.YthnlpdacbcjgpaaGreatDoor.Rep.aW.one 33 ga gc d) ?_
 rintro⟨lb,rest⟩ h
 dsimp only at h
 subst h
 refine an ?_
 refine VG (VI (a_ 0 Z Z Z Z Z Z Nat.zero_lt_one) ?_)
 refine R3 ?_
 refine an ?_
 refine VG (VT (vs:=dV d) (cs':=dV d) 1 Z Z Z Z (NR _) Z Z Z ?_)
 refine an ?_
 exact CR (ay.uD 2 3 4 Z Z Z (aE.many (ds:=dV d) 1 Z Z) Z Z ae.nil.ar ⟨.inl ⟨d,n,hr,Z⟩,Z⟩)
end Scr
namespace Vg
open Go
def lT(l:Nat):Value:=.func (.yield l) #[] #[]
def uo(l:Nat)(r:Loop):HP:=⟨fun ids w=>ids=[l]∧w.heap[l]?=some (.loop r),fun _ _ _ h hs=>⟨hs.1,(h l yb).trans hs.2⟩⟩
def H3(D:Nat):HP:=⟨fun ids w=>ids=[D]∧w.heap[D]?=some (.deferred (some [])),fun _ _ _ h hs=>⟨hs.1,(h D yb).trans hs.2⟩⟩
theorem Sat.putObj{Fr:Nat→Prop}{H H':HP}{L:List HP}{w:World}{b:Nat}{o:Obj}(hH:∀ids,H.sat ids w→ids=[b])(hH':b<w.heap.size→H'.sat [b] (w.putObj b o))(h:Sat Fr (H::L) w):
  Sat Fr (H'::L) (w.putObj b o)∧dH Fr w (w.putObj b o):=by
 obtain⟨F,⟨i,G,rfl,hi,hG⟩,hn,hb⟩:=h
 obtain rfl:=hH i hi
 have hd:=(Z8.1 hn).2.2
 have hne:∀x∈G,x≠b:=fun x hx e=>hd b yf x hx e.symm
 refine⟨⟨[b]++G,⟨[b],G,Z,hH' (hb b yf).2,hG.loc fun x hx=>World.putObj_heap_other (hne x hx)⟩,hn,fun x hx=>⟨(hb x hx).1,by rw[World.putObj_size];exact(hb x hx).2⟩⟩,?_⟩
 exact⟨rfl,Z,Z,by rw[World.putObj_size];exact NR _,fun x hx=>World.putObj_heap_other (fun e=>(hb b yf).1 (e▸hx)),NR _⟩
theorem Sat.lp{Fr:Nat→Prop}{L:List HP}{w:World}{l:Nat}{r:Loop}(h:Sat Fr (uo l r::L) w):w.heap[l]?=some (.loop r):=by
 obtain⟨F,⟨i,G,rfl,hi,hG⟩,hn,hb⟩:=h
 exact hi.2
theorem Sat.Ax{Fr:Nat→Prop}{L:List HP}{w:World}{l:Nat}{r:Loop}(q:Loop)(h:Sat Fr (uo l r::L) w):Sat Fr (uo l q::L) (w.putObj l (.loop q))∧dH Fr w (w.putObj l (.loop q)):=
 Sat.putObj (H:=uo l r) (H':=uo l q) (fun _ h=>h.1) (fun hl=>⟨rfl,World.putObj_heap_same hl⟩) h
def RN(X:Cx)(op:Op)(e:Env)(L:List HP)(M:Value→List HP→Prop):Prop:=
 (∀c,op≠.defer c)∧∀a w,kq X.n a e→St X L w→∀dst ty pos after guard,∃l f tmps assign body,(execOp a.eval ⟨dst,op,ty,pos,after,guard⟩).run X.P w=.ok (.round l f tmps assign body) w ∧
  RoundIn Fence.wide 0 X.P l f tmps assign body w fun en w'=>∃v L',en=.returned v∧M v L'∧St X L' w'
theorem RN.wp{X:Cx}{o:Oper}{e:Env}{L:List HP}{M:Value→List HP→Prop}(h:RN X o.op e L M){a:Act}{w:World}(ha:kq X.n a e)(hw:St X L w){ro:Option Nat}
  {next:Act→World→Prop} {Q:Exit→Act→World→Prop} (hn:∀v L' w',M v L'→St X L' w'→next (a.put o.dst v) w'):o.wpIn (wR ro) 0 X.P a w next Q:=by
 refine⟨fun _ _=>trivial,?_⟩
 rw[ux ro _ _ h.1]
 obtain⟨l,f,tmps,assign,body,hr,hc⟩:=h.2 a w ha hw o.dst o.type o.pos o.after o.guard
 rw[hr]
 refine⟨(fun h=>by cases h),RoundIn.mono (F:=wR ro) hc fun en w' ⟨v,L',he,hm,hs⟩=>?_⟩
 subst he
 exact hn v L' w' hm hs
theorem VO.ZF{X:Cx}{ops:Array Oper}{G:GS}{o:Oper}{l:List Oper}{e:Env}{L:List HP}{K:Env→List HP→Prop}{M:Value→List HP→Prop}(h:RN X o.op e L M)
  (hk:∀v L',M v L'→VO X ops G l (cE o.dst v e) L' K) (hg:gT ops G o.guard=some true:=by rfl) (hd:bB X.n o.dst=true:=by rfl) (hf:bt G o.dst=true:=by rfl):VO X ops G (o::l) e L K:=by
 intro Q' hQ ro a w ha hG hw
 unfold wpListIn
 rw[if_pos (eO hG hg)]
 exact h.wp ha hw fun v L' w' hm hs=>hk v L' hm Q' hQ _ _ _ (ha.cE hd v) (hG.put hf v) hs
def vK(D:Nat):Deferred:={ target:=.collected D,args:=#[] }
structure N5(D n:Nat)(a:Act)(e:Env):Prop where
 Y9:kq n { a with defers:=[] } e
 mark:a.defers=[vK D]
def VD(X:Cx)(D:Nat)(c:Code)(e:Env)(L:List HP)(Q:Exit→Env→List HP→Prop):Prop:=
 ∀a w,N5 D X.n a e→St X L w→c.wpIn (wR none) 0 X.P (fun x a' w'=>∃e' L',N5 D X.n a' e'∧St X L' w'∧Q x e' L') a w
def VM(X:Cx)(c:Code)(e:Env)(L:List HP)(Q:Exit→Env→List HP→Prop)(QD:Nat→Exit→Env→List HP→Prop):Prop:=
 ∀a w,kq X.n a e→St X L w→c.wpIn (wR none) 0 X.P (fun x a' w'=>(∃e' L',kq X.n a' e'∧St X L' w'∧Q x e' L')∨∃D e' L',N5 D X.n a' e'∧St X L' w'∧QD D x e' L') a w
def N6(X:Cx)(D:Nat)(c:Code)(Q:Exit→Env→List HP→Prop):Exit→Env→List HP→Prop
 | .normal,e,L=>VD X D c e L Q
 | x,e,L=>Q x e L
def Wx(X:Cx)(c:Code)(Q:Exit→Env→List HP→Prop)(QD:Nat→Exit→Env→List HP→Prop):Exit→Env→List HP→Prop
 | .normal,e,L=>VM X c e L Q QD
 | x,e,L=>Q x e L
section
variable {X:Cx} {D:Nat} {b c:Code} {e:Env} {L:List HP} {Q:Exit→Env→List HP→Prop} {QD:Nat→Exit→Env→List HP→Prop}
theorem VD.ret(h:Q .ret e L):VD X D .ret e L Q:=fun _ _ ha hw=>wpIn_ret ⟨e,L,ha,hw,h⟩
theorem VD.seq(h:VD X D b e L (N6 X D c Q)):VD X D (.seq b c) e L Q:=by
 intro a w ha hw
 refine wpIn_seq (wpIn_mono (h a w ha hw) fun x a' w' ⟨e',L',h1,h2,h3⟩=>?_)
 cases x with
 | normal=>exact h3 a' w' h1 h2
 | exit id=>exact⟨e',L',h1,h2,h3⟩
 | goto l=>exact⟨e',L',h1,h2,h3⟩
 | ret=>exact⟨e',L',h1,h2,h3⟩
 | panic ch=>exact⟨e',L',h1,h2,h3⟩
 | outgrown=>exact⟨e',L',h1,h2,h3⟩
theorem VM.QQ(h:VC X b e L (Wx X c Q QD)):VM X (.seq b c) e L Q QD:=by
 intro a w ha hw
 refine wpIn_seq (wpIn_mono (h none a w ha hw) fun x a' w' ⟨e',L',h1,h2,h3⟩=>?_)
 cases x with
 | normal=>exact h3 a' w' h1 h2
 | exit id=>exact .inl ⟨e',L',h1,h2,h3⟩
 | goto l=>exact .inl ⟨e',L',h1,h2,h3⟩
 | ret=>exact .inl ⟨e',L',h1,h2,h3⟩
 | panic ch=>exact .inl ⟨e',L',h1,h2,h3⟩
 | outgrown=>exact .inl ⟨e',L',h1,h2,h3⟩
theorem VM.N6(h:VM X b e L (fun _ _ _=>False) (fun D=>N6 X D c (QD D))):VM X (.seq b c) e L Q QD:=by
 intro a w ha hw
 refine wpIn_seq (wpIn_mono (h a w ha hw) fun x a' w' hh=>?_)
 rcases hh with ⟨_,_,_,_,h3⟩ | ⟨D,e',L',h1,h2,h3⟩
 ·exact h3.elim
 cases x with
 | normal=>exact wpIn_mono (h3 a' w' h1 h2) fun x a2 w2 ⟨e2,L2,k1,k2,k3⟩=>.inr ⟨D,e2,L2,k1,k2,k3⟩
 | exit id=>exact .inr ⟨D,e',L',h1,h2,h3⟩
 | goto l=>exact .inr ⟨D,e',L',h1,h2,h3⟩
 | ret=>exact .inr ⟨D,e',L',h1,h2,h3⟩
 | panic ch=>exact .inr ⟨D,e',L',h1,h2,h3⟩
 | outgrown=>exact .inr ⟨D,e',L',h1,h2,h3⟩
end
def Wy(X:Cx)(fn:Func)(R:Value→List HP→Prop)(D:Nat):Exit→Env→List HP→Prop
 | .normal,e,L=>∃L2,L=H3 D::L2∧ay X fn R e L2
 | .ret,e,L=>∃L2,L=H3 D::L2∧ay X fn R e L2
 | _,_,_=>False
theorem aH.ofM{P:Program}{f:FuncId}{fn:Func}{c:Code}{args:List Value}{Fr:Nat→Prop}{w:World}{L:List HP}{R:Value→List HP→Prop}{tab:DB}(n:Nat)
  (hf:P.funcs[f]?=some fn) (hb:fn.body=some c) (hnm:(fn.name == "runtime.NumGoroutine")=false) (ok:nM P tab) (hnt:fn.ntmps=n) (hn:Nat.ble args.length n=true)
  (h:VM ⟨P,tab,ok,n,Fr,w⟩ c (xw 0 args) L (Sh ⟨P,tab,ok,n,Fr,w⟩ fn R) (Wy ⟨P,tab,ok,n,Fr,w⟩ fn R)):aH P f args Fr w L R:=by
 subst hnt
 replace hn:=ZT hn
 refine⟨⟨fn,hf,by simp[hb],hnm⟩,fun hlow hs=>?_⟩
 refine(callsIn_wide (n:=0)).1 (callsIn_of_wp_marks (F:=Fence.wide) hf hb trivial (wpIn_mono (F:=wR none) (h _ w (xx hn) ⟨hs,dH.refl _ _,hlow⟩) fun x a' w' hh=>?_))
 rcases hh with ⟨e',L',h1,h2,h3⟩ | ⟨D,e',L',h1,h2,h3⟩
 ·have key:ay ⟨P,tab,ok,fn.ntmps,Fr,w⟩ fn R e' L'→LeavesInM Fence.wide 0 P fn a'.tmps (fun e w'=>∃v L',e=.returned v∧R v L'∧Sat Fr L' w'∧dH Fr w w') a'.defers .returning w':=by
   rintro⟨v,L1,hr,he,hR⟩
   rw[h1.defers]
   exact⟨v,hr.run a' w' h1 h2,v,L1,Z,hR,(he w' h2).sat,h2.cK⟩
  cases x with
  | normal=>exact key h3
  | ret=>exact key h3
  | exit id=>exact h3.elim
  | goto l=>exact h3.elim
  | panic ch=>exact h3.elim
  | outgrown=>exact h3.elim
 ·have key:(∃L2,L'=H3 D::L2∧ay ⟨P,tab,ok,fn.ntmps,Fr,w⟩ fn R e' L2)→LeavesInM Fence.wide 0 P fn a'.tmps (fun e w'=>∃v L',e=.returned v∧R v L'∧Sat Fr L' w'∧dH Fr w w') a'.defers .returning w':=by
   rintro⟨L2,rfl,v,L1,hr,he,hR⟩
   rw[h1.mark]
   obtain⟨s2,k2⟩:=Sat.putObj (H:=H3 D) (b:=D) (o:=.deferred none) (H':=⟨fun ids w=>ids=[D],fun _ _ _ _ h=>h⟩) (fun _ h=>h.1) (fun _=>rfl) h2.sat
   have hD:w'.heap[D]?=some (.deferred (some [])):=by
    obtain⟨F,⟨i,G,rfl,hi,hG⟩,hn,hb⟩:=h2.sat
    exact hi.2
   have st:St ⟨P,tab,ok,fn.ntmps,Fr,w⟩ L2 (w'.putObj D (.deferred none)):=⟨s2.tail,h2.cK.trans k2,h2.low⟩
   exact⟨(fun h=>by cases h),.inl ⟨D,_,rfl,run_takeDeferred hD,v,hr.run { a' with defers:=[] } _ h1.Y9 st,v,L1,rfl,hR,(he _ st).sat,st.cK⟩⟩
  cases x with
  | normal=>exact key h3
  | ret=>exact key h3
  | exit id=>exact h3.elim
  | goto l=>exact h3.elim
  | panic ch=>exact h3.elim
  | outgrown=>exact h3.elim
end Vg
namespace Vg
open Go
theorem Cq{F:Fence}{n:Nat}{P:Program}{Q:Exit→Act→World→Prop}{K:Act→World→Prop}(ds:List Deferred){o:Oper}{a:Act}{w:World}(h:o.wpIn F n P a w K Q):
  o.wpIn F n P { a with defers:=a.defers++ds } w (fun a' w'=>∃a0,K a0 w'∧a'={ a0 with defers:=a0.defers++ds }) (fun x a' w'=>∃a0,Q x a0 w'∧a'={ a0 with defers:=a0.defers++ds }):=by
 have hput:∀(a:Act) v,({ a with defers:=a.defers++ds }:Act).put o.dst v={ a.put o.dst v with defers:=(a.put o.dst v).defers++ds }:=fun a v=>by
  cases hd:o.dst<;>rfl
 unfold Oper.wpIn at h ⊢
 refine⟨h.1,?_⟩
 have h:=h.2
 have he:({ a with defers:=a.defers++ds }:Act).eval=a.eval:=rfl
 rw[he]
 generalize (o.semAt F.round a.eval).run P w=r at h ⊢
 cases r with
 | ok x w'=>
  cases x<;>simp only[Oper.uponIn] at h ⊢
  case value u=>exact⟨_,h,hput _ _⟩
  case skip=>exact⟨_,h,hput _ _⟩
  case defer d=>
   refine⟨_,h,?_⟩
   exact hput { a with defers:=d::a.defers } _
  case enter f args=>
   refine⟨h.1,CallsIn.mono h.2 fun e w'' he=>?_⟩
   cases e with
   | returned u=>exact⟨_,he,hput _ _⟩
   | panicked c=>exact⟨a,he,rfl⟩
   | outgrown=>obtain⟨a0,w0,hq⟩:=he;exact⟨_,w0,a0,hq,rfl⟩
  case row row args=>exact⟨h.1,RowsIn.mono h.2 fun u w'' he=>⟨_,he,hput _ _⟩⟩
  case round l f tmps assign body=>
   refine⟨h.1,RoundIn.mono h.2 fun e w'' he=>?_⟩
   cases e with
   | returned u=>exact⟨_,he,hput _ _⟩
   | panicked c=>exact⟨a,he,rfl⟩
   | outgrown=>obtain⟨a0,w0,hq⟩:=he;exact⟨_,w0,a0,hq,rfl⟩
 | halt x w'=>
  cases x<;>simp only[Oper.uponIn] at h ⊢
  case panic u=>exact⟨a,h,rfl⟩
theorem iT{F:Fence}{n:Nat}{P:Program}{ops:Array Oper}{Q:Exit→Act→World→Prop}(ds:List Deferred):∀(fuel:Nat) (listed:Array Bool) (a:Act) (w:World),wpAnyIn F n P .any ops Q fuel listed a w →
  wpAnyIn F n P .any ops (fun x a' w'=>∃a0,Q x a0 w'∧a'={ a0 with defers:=a0.defers++ds }) fuel listed { a with defers:=a.defers++ds } w
 | 0,listed,a,w,h=>⟨h.1,a,h.2,rfl⟩
 | fuel+1,listed,a,w,h=>⟨fun hr=>⟨a,h.1 hr,rfl⟩,fun i hi=>by
  have h2:=h.2 i hi
  unfold wpOpIn at h2 ⊢
  cases hx:ops[i]? with
  | none=>rw[hx] at h2;exact iT ds fuel _ a w h2
  | some o=>
   rw[hx] at h2
   dsimp only at h2 ⊢
   have hput:∀(a:Act) v,({ a with defers:=a.defers++ds }:Act).put o.dst v={ a.put o.dst v with defers:=(a.put o.dst v).defers++ds }:=fun a v=>by
    cases hd:o.dst<;>rfl
   split
   ·rename_i hw
    rw[if_pos hw] at h2
    exact Oper.wpIn_mono (fun a' w' ⟨a0,h3,h4⟩=>by subst h4;exact iT ds fuel _ a0 w' h3) (Cq ds h2)
   ·rename_i hw
    rw[if_neg hw] at h2
    refine⟨h2.1,?_⟩
    rw[hput]
    exact iT ds fuel _ _ w h2.2⟩
theorem VD.draw{X:Cx}{D:Nat}{id:Nat}{l:List Oper}{e:Env}{L:List HP}{Q:Exit→Env→List HP→Prop}(pl:je)(hmix:X.P.follows .mixedOrders=true)
  (hp:(Region.noSelect l.toArray&&Nat.beq pl.len l.length&&kA l.toArray (Array.replicate l.length false) pl)=true)
  (h:VA X l.toArray [] pl [] e L (Q .normal)):VD X D (.region id l.toArray true) e L Q:=by
 intro a w ha hw
 simp only[Z2] at hp
 have hlen:pl.len=l.length:=Nat.eq_of_beq_eq_true hp.1.2
 have h0:=h (fun x a' w'=>match x with | .normal=>∃e' L',kq X.n a' e'∧St X L' w'∧Q .normal e' L' | _=>False) (fun _ _ _ h=>h) (fun e' L' _ _ h1 h2 h3=>⟨e',L',h1,h2,h3⟩) hp.1.1 none
  (Array.replicate l.length false) { a with defers:=[] } { w with drawn:=w.drawn+1 } hp.2 ha.Y9 (Fg.nil _) hw.drew (fun _ h=>by cases h)
 rw[hlen] at h0
 have h2:=iT [vK D] _ _ _ _ (qi _ _ _ _ _ h0)
 have e1:({ ({ a with defers:=[] }:Act) with defers:=({ a with defers:=[] }:Act).defers ++ [vK D] }:Act)=a:=by
  have:=ha.mark
  obtain⟨t,d⟩:=a
  dsimp only at this
  subst this;rfl
 rw[e1] at h2
 refine Code.wpIn_mono (fun x a' w' hx=>?_) (wpIn_region_any hmix (by simpa using h2))
 obtain⟨a0,h3,rfl⟩:=hx
 cases x with
 | normal=>
  obtain⟨e',h4,L',h5,h6⟩:∃e',kq X.n a0 e'∧∃L',St X L' w'∧Q .normal e' L':=h3
  have hd0:=h4.defers
  refine⟨e',L',⟨?_,?_⟩,h5,h6⟩
  ·obtain⟨t,d⟩:=a0
   dsimp only at hd0
   subst hd0
   exact h4
  ·show a0.defers ++ [vK D]=_
   rw[hd0];rfl
 | exit id=>exact h3.elim
 | goto l=>exact h3.elim
 | ret=>exact h3.elim
 | panic ch=>exact h3.elim
 | outgrown=>exact h3.elim
theorem Wz{n:Nat}{a:Act}{e:Env}(h:kq n a e){t u:Nat}(ht:Nat.blt t n=true)(hu:Nat.blt u n=true)(v x:Value):kq n { tmps:=((#[t,u]:Array Tmp).zip #[v,x]).foldl (fun tmps (t,a)=>tmps.setIfInBounds t a) a.tmps,defers:=[] } ((u,x)::(t,v)::e):=by
 have:=(h.put ht v).put hu x
 have hd:=h.defers
 obtain⟨y,d⟩:=a
 dsimp only at hd
 subst hd
 have e1:((#[t,u]:Array Tmp).zip #[v,x]).foldl (fun tmps (t,a)=>tmps.setIfInBounds t a) y=(y.setIfInBounds t v).setIfInBounds u x:=by simp
 dsimp only
 rw[e1]
 exact this
end Vg
namespace Vg
open Go
def p8(r:Loop):Loop:={ r with state:=.done,pending:=some .ret }
def Jo(P:Program)(l:Nat)(r:Loop)(vals:List Value)(Fr:Nat→Prop)(w:World)(L:List HP)(R S:List HP→Prop):Prop:=
 (∀b,Fr b→b<w.heap.size)→Sat Fr (uo l r::L) w →
  RoundIn Fence.wide 0 P l r.fn ((r.params.zip vals.toArray).foldl (fun tmps (t,a)=>tmps.setIfInBounds t a) r.tmps) r.assign r.body w fun en w'=>∃(b:Bool) (L':List HP),en=.returned (.bool b)∧(if b then R L' else S L')∧Sat Fr (uo l (if b then r else p8 r)::L') w'∧dH Fr w w'
theorem Jo.of{P:Program}{tab:DB}{ok:nM P tab}{n l:Nat}{r:Loop}{vals:List Value}{Fr:Nat→Prop}{w:World}{L:List HP}{R S:List HP→Prop}{e0:Env}(hst:r.state=.ready)(hpe:r.pending=none)
  (ha:kq n { tmps:=(r.params.zip vals.toArray).foldl (fun tmps (t,a)=>tmps.setIfInBounds t a) r.tmps,defers:=[] } e0)
  (h:VC ⟨P,tab,ok,n,Fr,w⟩ r.assign e0 (uo l r::L) fun x e1 L1=>x=.normal∧∃L2,L1=uo l r::L2 ∧
   ∀w2,dH Fr w w2→VC ⟨P,tab,ok,n,Fr,w2⟩ r.body e1 (uo l { r with state:=.busy } :: L2) fun x e2 L3=>∃L4,L3=uo l { r with state:=.busy } :: L4∧(x=.normal∧R L4∨x=.ret∧S L4)):
  Jo P l r vals Fr w L R S:=fun hlow hs=>by
 refine roundIn_of_wpIn (F:=Fence.wide) trivial ?_
 have h1:=h (some l) _ w ha ⟨hs,dH.refl _ _,hlow⟩
 refine wpIn_mono (F:=wR (some l)) h1 ?_
 rintro x a1 w1 ⟨e1,L1,g1,g2,rfl,L2,rfl,hb⟩
 have hl1:=g2.sat.lp
 obtain⟨s2,k2⟩:=g2.sat.Ax { r with state:=.busy }
 refine⟨_,run_beginRound hl1 hst,?_⟩
 have hlow2:∀b,Fr b→b<(w1.putObj l (.loop { r with state:=.busy })).heap.size:=fun b hb=>by rw[World.putObj_size];exact g2.nZ b hb
 refine wpIn_mono (F:=wR (some l)) (hb (w1.putObj l (.loop { r with state:=.busy })) (g2.cK.trans k2) (some l) a1 _ g1 ⟨s2,dH.refl _ _,hlow2⟩) ?_
 rintro x a2 w2 ⟨e2,L3,g3,g4,L4,rfl,hR⟩
 have he:({ ({ r with state:=LoopState.busy }:Loop) with state:=if (none:Option Code).isNone then .ready else .done,pending:=none }:Loop)=r:=by
  obtain⟨_,_,_,_,_,_,_,_⟩:=r
  dsimp only at hst hpe
  subst hst hpe
  rfl
 have he2:({ ({ r with state:=LoopState.busy }:Loop) with state:=if (some Code.ret).isNone then .ready else .done,pending:=some Code.ret }:Loop)=p8 r:=rfl
 rcases hR with ⟨rfl,hR⟩ | ⟨rfl,hR⟩
 ·obtain⟨s5,k5⟩:=g4.sat.Ax r
  refine⟨_,_,run_endRound none g4.sat.lp,?_⟩
  rw[he]
  exact⟨true,L4,Z,hR,s5,((g2.cK.trans k2).trans g4.cK).trans k5⟩
 ·obtain⟨s5,k5⟩:=g4.sat.Ax (p8 r)
  refine⟨_,_,run_endRound (some .ret) g4.sat.lp,?_⟩
  rw[he2]
  exact⟨false,L4,Z,hR,s5,((g2.cK.trans k2).trans g4.cK).trans k5⟩
theorem RN.QR{X:Cx}{x:Operand}{l:Nat}{r:Loop}{args:Array Operand}{tys:Array TypeId}{e:Env}{L Lc Lr:List HP}{vals:List Value}{R S:List HP→Prop}
  (hx:ev e x=some (lT l)) (hargs:lE e args.toList=some vals) (hn:vals.length=r.params.size) (hp:L.Perm (uo l r::(Lc++Lr)))
  (ht:∀Fr' w,(∀b,X.Fr b→Fr' b)→St X L w→aM Fr' Lr w→Jo X.P l r vals Fr' w Lc R S):
  RN X (.call ⟨.value x,args,tys⟩) e L (fun v L'=>∃(b:Bool) (L1:List HP),v=.bool b∧(if b then R L1 else S L1)∧L'=uo l (if b then r else p8 r)::(L1++Lr)):=by
 refine⟨fun c=>Op.noConfusion,fun a w ha hw dst ty pos after guard=>?_⟩
 obtain⟨F,hs,hnd,hb⟩:=hw.sat.perm hp
 obtain⟨i,G,rfl,hi,hG⟩:=hs
 obtain⟨rfl,hl⟩:=hi
 obtain⟨Fc,Fl,rfl,hsc,hsl⟩:=dM.append.1 hG
 have T:=ht (fun b=>X.Fr b∨b∈Fl) w (fun b h=>.inl h) hw ⟨Fl,hsl,fun b h=>.inr h⟩
 have hev:args.map a.eval=vals.toArray:=by
  have:=ha.lE hargs
  apply Array.toList_inj.1
  simpa using this
 refine⟨l,r.fn,(r.params.zip vals.toArray).foldl (fun tmps (t,a)=>tmps.setIfInBounds t a) r.tmps,r.assign,r.body,?_,?_⟩
 rotate_left
 ·have hnd2:=Z8.1 hnd
  have hnd3:=Z8.1 hnd2.2.1
  refine RoundIn.mono (T (fun b h=>?_) ⟨[l]++Fc,⟨[l],Fc,Z,⟨rfl,hl⟩,hsc⟩,?_,fun b h=>⟨fun h'=>?_,?_⟩⟩) fun en w' ⟨bb,L',h1,h2,h3,h4⟩=>?_
  ·rcases h with h | h
   ·exact hw.nZ b h
   ·exact(hb b ya).2
  ·rw[←ZX] at hnd
   exact(Z8.1 hnd).1
  ·rcases h' with h' | h'
   ·refine(hb b ?_).1 h'
    rcases ZY.1 h with h | h
    ·simp at h;simp[h]
    ·simp[h]
   ·rcases ZY.1 h with h | h
    ·exact hnd2.2.2 b h b (by simp[h']) rfl
    ·exact hnd3.2.2 b h b h' rfl
  ·rcases ZY.1 h with h | h
   ·exact(hb b (by simp at h;simp[h])).2
   ·exact(hb b ya).2
  ·refine⟨.bool bb,uo l (if bb then r else p8 r)::(L'++Lr),h1,⟨bb,L',Z,h2,Z⟩,⟨?_,hw.cK.trans (h4.mono fun b h=>.inl h),hw.low⟩⟩
   obtain⟨K,hK,hKn,hKb⟩:=h3
   refine⟨K++Fl,dM.append (L:=uo l (if bb then r else p8 r)::L').2 ⟨K,Fl,Z,hK,hsl.loc fun b h=>h4.block b (.inr h)⟩,?_,?_⟩
   ·exact Z8.2 ⟨hKn,hnd3.2.1,fun x hx y hy he=>(hKb x hx).1 (.inr (he▸hy))⟩
   ·intro b h
    rcases ZY.1 h with h | h
    ·exact⟨fun h'=>(hKb b h).1 (.inl h'),(hKb b h).2⟩
    ·exact TO
 ·have hy:=run_yield (P:=X.P) (args:=vals.toArray) hl (by simpa using hn)
  simp only[execOp,resolve,ha.ev hx,lT,Deferred.ofValue,invoke]
  rw[hev]
  simpa[Sem.run_bind,Result.andThen] using hy
section
variable {X:Cx} {D:Nat} {b c:Code} {e:Env} {L:List HP} {Q:Exit→Env→List HP→Prop} {QD:Nat→Exit→Env→List HP→Prop}
theorem VM.QS{id:Nat}(h:VM X c e L (fun _ _ _=>False) (fun D x e L=>(x=.normal∧QD D .normal e L)∨(x=.ret∧QD D .ret e L))):VM X (.block id c) e L (fun _ _ _=>False) QD:=by
 intro a w ha hw
 refine wpIn_block (wpIn_mono (h a w ha hw) fun x a' w' hh=>?_)
 rcases hh with ⟨_,_,_,_,h3⟩ | ⟨D,e',L',h1,h2,⟨rfl,h3⟩ | ⟨rfl,h3⟩⟩
 ·exact h3.elim
 ·exact .inr ⟨D,e',L',h1,h2,h3⟩
 ·exact .inr ⟨D,e',L',h1,h2,h3⟩
theorem VM.N7{g:Operand}{ps:Array Tmp}{assign body:Code}{f:FuncId}{capt:List Value}{M N:List HP→Prop}(hg:ev e g=some (pT f [] capt))(hc:dW X.P f)
  (ht:∀(l:Nat) (r:Loop) (Fr':Nat→Prop) (w:World),(∀b,X.Fr b→Fr' b)→dH X.Fr X.w0 w→(∃a:Act,kq X.n a e∧r.tmps=a.tmps)→r.state=.ready→r.pending=none→r.params=ps→r.assign=assign→r.body=body →
   aH X.P f (lT l::capt) Fr' w (uo l r::L) fun _ L'=>∃(bb:Bool) (L2:List HP),L'=uo l (if bb then r else p8 r)::L2∧(if bb then M L2 else N L2))
  (hk:∀D L2,M L2→QD D .normal e (H3 D::L2)) (hx:∀D L2,N L2→QD D .ret e (H3 D::L2)):VM X (.rangeFunc g ps assign body) e L Q QD:=by
 intro a w ha hw
 refine wpIn_rangeFunc (F:=Fence.wide) fun fn _=>?_
 obtain⟨r,hr⟩:∃r:Loop,r={ state:=.ready,pending:=none,fn,tmps:=a.tmps,params:=ps,assign,body,defers:=w.heap.size }:=⟨_,rfl⟩
 obtain⟨W,hW⟩:∃W,W=(w.alloc (.deferred (some []))).alloc (.loop r):=⟨_,rfl⟩
 have s1:Sat X.Fr (H3 w.heap.size::L) (w.alloc (.deferred (some []))):=hw.sat.alloc hw.nZ _ _ ⟨rfl,heap_alloc_new w _⟩
 have k1:dH X.Fr w (w.alloc (.deferred (some []))):=dH.alloc hw.nZ _
 have low1:∀b,X.Fr b→b<(w.alloc (.deferred (some []))).heap.size:=fun b hb=>Nat.lt_of_lt_of_le (hw.nZ b hb) k1.size
 have hsz:(w.alloc (.deferred (some []))).heap.size=w.heap.size+1:=by simp
 have s2:Sat X.Fr (uo (w.heap.size+1) r::H3 w.heap.size::L) W:=by
  rw[hW,←hsz]
  exact s1.alloc low1 _ _ ⟨rfl,heap_alloc_new _ _⟩
 have k2:dH X.Fr w W:=by rw[hW];exact k1.trans (dH.alloc low1 _)
 have hev:a.eval g=.func (.func f) #[] capt.toArray:=ha.ev hg
 refine⟨w.heap.size+1,[vK w.heap.size],W,{ target:=.fn (.func f) capt.toArray,args:=#[lT (w.heap.size+1)] },W,f,#[lT (w.heap.size+1)]++capt.toArray,W,?_,?_,fun _ _=>trivial,?_,(fun h=>by cases h),?_⟩
 ·rw[hW,hr];exact run_enterLoop_outer _ _ _ _ _
 ·simp only[resolve,hev]
  simp[Deferred.ofValue,lT,Act.eval]
 ·simp only[invoke]
  exact mS hc _ _
 obtain⟨F,hs,hnd,hb⟩:=s2
 obtain⟨i,G,rfl,hi,hG⟩:=hs
 obtain⟨rfl,hl⟩:=hi
 obtain⟨j,K,rfl,hj,hK⟩:=hG
 obtain⟨rfl,hD⟩:=hj
 have hn2:=Z8.1 hnd
 have hn3:=Z8.1 hn2.2.1
 have T:=ht (w.heap.size+1) r (fun b=>X.Fr b∨b=w.heap.size) W (fun b h=>.inl h) (hw.cK.trans k2) ⟨a,ha,by rw[hr]⟩ (by rw[hr]) (by rw[hr]) (by rw[hr]) (by rw[hr]) (by rw[hr])
 have hc1:=T.calls (fun b h=>by
  rcases h with h | rfl
  ·exact(Nat.lt_of_lt_of_le (hw.nZ b h) k2.size)
  ·exact(hb _ yf).2) ⟨[w.heap.size+1]++K,⟨[w.heap.size+1],K,Z,⟨rfl,hl⟩,hK⟩,by
   refine Z8.2 ⟨by simp,hn3.2.1,fun x hx y hy he=>hn2.2.2 x hx y (by simp[hy]) he⟩,fun b hbm=>⟨fun h=>?_,?_⟩⟩
 rotate_left
 ·rcases h with h | rfl
  ·rcases ZY.1 hbm with h2 | h2
   ·exact(hb b (by simp at h2;simp[h2])).1 h
   ·exact(hb b yj).1 h
  ·rcases ZY.1 hbm with h2 | h2
   ·simp at h2
   ·exact hn3.2.2 _ yf _ h2 rfl
 ·rcases ZY.1 hbm with h2 | h2
  ·exact(hb b (by simp at h2;simp[h2])).2
  ·exact(hb b yj).2
 have e1:(#[lT (w.heap.size+1)]++capt.toArray:Array Value)=(lT (w.heap.size+1)::capt).toArray:=by simp
 rw[e1]
 refine(callsIn_wide (n:=0-1)).2 (Calls.mono hc1 ?_)
 rintro en w' ⟨v,L',rfl,⟨bb,L2,rfl,hM⟩,h3,h4⟩
 obtain⟨rr,hrr⟩:∃rr,rr=(if bb then r else p8 r):=⟨_,rfl⟩
 rw[←hrr] at h3
 have hl':=h3.lp
 have hnb:rr.state≠.busy:=by
  rw[hrr]
  cases bb
  ·exact fun h=>by cases h
  ·rw[hr];exact fun h=>by cases h
 have hpd:rr.pending=if bb then none else some .ret:=by
  rw[hrr]
  cases bb
  ·rfl
  ·rw[hr];rfl
 obtain⟨s5,k5⟩:=h3.Ax { rr with state:=.exhausted }
 refine⟨if bb then none else some .ret,w'.putObj (w.heap.size+1) (.loop { rr with state:=.exhausted }),?_,?_⟩
 ·have:=run_endLoop (P:=X.P) hl' hnb
  rw[this,hpd]
 have hD':(w'.putObj (w.heap.size+1) (.loop { rr with state:=.exhausted })).heap[w.heap.size]?=some (.deferred (some [])):=(k5.block _ (.inr rfl)).trans ((h4.block _ (.inr rfl)).trans hD)
 have hag:N5 w.heap.size X.n { a with defers:=[vK w.heap.size]++a.defers } e:=by
  refine⟨?_,?_⟩
  ·have hd0:=ha.defers
   obtain⟨t,d⟩:=a
   dsimp only at hd0
   subst hd0
   exact ha
  ·show [vK w.heap.size]++a.defers=_
   rw[ha.defers];rfl
 have hst:St X (H3 w.heap.size::L2) (w'.putObj (w.heap.size+1) (.loop { rr with state:=.exhausted })):=by
  refine⟨?_,(hw.cK.trans k2).trans ((h4.trans k5).mono fun b h=>.inl h),hw.low⟩
  obtain⟨F5,hs5,hn5,hb5⟩:=s5.tail
  refine⟨[w.heap.size]++F5,⟨_,F5,Z,⟨rfl,hD'⟩,hs5⟩,Z8.2 ⟨by simp,hn5,fun x hx y hy he=>?_⟩,fun b hbm=>?_⟩
  ·simp at hx
   exact(hb5 y hy).1 (.inr (by rw[←he,hx]))
  ·rcases ZY.1 hbm with h2 | h2
   ·simp at h2
    rw[h2]
    exact⟨fun h=>Nat.lt_irrefl _ (hw.nZ _ h),(Array.getElem?_eq_some_iff.1 hD').1⟩
   ·exact⟨fun h=>(hb5 b h2).1 (.inl h),(hb5 b h2).2⟩
 cases bb with
 | true=>exact .inr ⟨w.heap.size,e,H3 w.heap.size::L2,hag,hst,hk _ _ hM⟩
 | false=>exact wpIn_ret (.inr ⟨w.heap.size,e,H3 w.heap.size::L2,hag,hst,hx _ _ hM⟩)
end
end Vg
namespace Scr
open Go Vg T Api LibC
attribute [local irreducible] VO VC VA VM VD
abbrev SZ:TypeId:=9
abbrev WA:TypeId:=3
abbrev FG:TypeId:=34
abbrev S7:TypeId:=37
abbrev S8:TypeId:=25
def eC(n:Int):List Value:=[.int .i64 n]
theorem Ay(n:Int):(eC n).length=1:=rfl
structure Es where
 a:Option Addr
 c:Nat
 b:Option Addr
 d:Nat
structure Pg where
 l:Nat
 t:Nat
 m:Nat
 e:Nat
 n:Nat
def yF(B:Pg)(x:List (cn×Int))(y:Es):List HP:=[pt B.l [.slice y.a x.length y.c] S8,pt B.t [.slice y.b x.length y.d] S7,pt B.m [.int .i64 0] WA,pt B.e [.int .i64 0] FG,pt B.n [.int .i64 x.length] WA,
 aI 33 8 y.a x.length y.c (flat dV (x.map Prod.fst)),aI FG 1 y.b x.length y.d (flat eC (x.map Prod.snd))]
def mC(B:Pg)(x:List (cn×Int)):HP:=hex fun y:Es=>cU (yF B x y)
def yH(B:Pg)(x:List (cn×Int)):List HP:=[pt B.l [.slice none 0 0] S8,pt B.t [.slice none 0 0] S7,pt B.m [.int .i64 ((x.length:Int)+1)] WA,pt B.e [.int .i64 10] FG]
theorem aW.read(B:Pg)(x:List (cn×Int)):aW (ι:=Es) (mC B x) (fun _=>True) (fun y=>yF B x y):=fun w ids ⟨y,h⟩ hn=>⟨y,trivial,ids,h,hn,fun _ h=>h⟩
theorem ae.read{B:Pg}{x:List (cn×Int)}{L K:List HP}(y:Es)(h:ae L (yF B x y++K)):ae L (mC B x::K):=ae.ex (f:=fun y:Es=>cU (yF B x y)) y (ae.sep h)
def Y_(r:Loop)(l:Nat)(B:Pg):Prop:=∀(x:List (cn×Int)) (t:List UInt8) (ended:Bool) (Fr:Nat→Prop) (w:World),t.length≤900000→x.length≤1000000→b9 Fr w→cy Fr w →
 Jo Tryz.prog l r [.string (bY t),.bool ended] Fr w [mC B x] (fun L=>∃p,ended=true∧jn t=some p∧L=[mC B (x ++ [p])]) (fun L=>(ended=false∨jn t=none)∧L=yH B x)
theorem Cr{r:Loop}{l bx:Nat}{B:Pg}(hy:Y_ r l B)(hps:r.params.size=2)(s:List UInt8)(hs:s.length≤900000)(x0:List (cn×Int))(hx0:x0.length+s.length≤1000000)(hG:b9 Fr w)(hK:cy Fr w):
  aH Tryz.prog 40 [lT l,.pointer (some ⟨bx,0,none⟩)] Fr w (uo l r :: [mC B x0,pt bx [.string (bY s)] SZ]) (fun v L=>∃bb x,dR (s.length+1) s x0=(bb,x)∧v=.tuple #[]∧L=uo l (if bb then r else p8 r)::(if bb then [mC B x] else yH B x)):=by
 obtain⟨J,hJ⟩:∃J,J=dR (s.length+1) s x0:=⟨_,rfl⟩
 rw[←hJ]
 refine TF 20 Tryz.func40 Z yn ah Z Z ?_
 refine VC.block ?_
 refine VC.loop (σ:=List UInt8×List (cn×Int)×Nat) (fun z=>[(0,lT l),(1,pV bx)]) (fun z=>uo l r :: [mC B z.2.1,pt bx [.string (bY z.1)] SZ]) (fun z=>z.2.1.length+z.1.length≤1000000∧z.1.length≤900000∧z.1.length<z.2.2∧J=dR z.2.2 z.1 z.2.1) (fun z=>z.1.length) (s,x0,s.length+1)
  ⟨hx0,hs,by dsimp only;omega,hJ⟩ ba ER ?_
 rintro⟨t,x,f⟩ ⟨h1,h2,h3,h4⟩
 dsimp only at h1 h2 h3 h4 ⊢
 obtain⟨f,rfl⟩:∃k,f=k+1:=⟨f-1,by omega⟩
 refine sj ?_
 refine CC Z (fun hc=>CK ?_) (fun hc=>CX ?_)
 rotate_left
 ·have ht:t=[]:=by
   rw[my] at hc
   have hc:bY t=⟨#[]⟩:=by simpa using hc
   have:=congrArg (fun b:ByteArray=>b.data.toList) hc
   rwa[fR] at this
  rw[dR,if_pos ht] at h4
  exact ay.void Z (IP 0 Z (IP 0 Z ae.nil)).ar ⟨true,x,h4,Z,Z⟩
 have ht:t≠[]:=fun e=>by
  rw[my,e] at hc
  simp[bY] at hc
 rw[dR,if_neg ht] at h4
 have hcl:=Jf (s:=t)
 refine sj ?_
 refine VG (VV (fun Fr w hF hw _=>oU Fr w (bY t) ⟨#[10]⟩ Pw (b9.st (X:=⟨Tryz.prog,tab,ah,20,_,_⟩) hG hF hw)) Z ?_)
 rw[fR,show(⟨#[10]⟩:ByteArray).data.toList=[10] from rfl]
 have hct:=fun h=>FD (s:=t) h ht
 generalize Lib.cut t [10]=q at hcl hct h4
 obtain⟨ln,rs,en⟩:=q
 dsimp only at hcl hct h4 ⊢
 refine aq ?_
 refine VG (VO.ZF (RN.QR (r:=r) (vals:=[.string (bY ln),.bool en]) (Lc:=[mC B x]) (Lr:=[pt bx [.string (bY t)] SZ]) Z Z hps.symm (List.Perm.refl _) (fun Fr' w hF hw hS=>hy x ln en Fr' w yd yd (b9.st (X:=⟨Tryz.prog,tab,ah,20,_,_⟩) hG hF hw) (cy.st (X:=⟨Tryz.prog,tab,ah,20,_,_⟩) hK hF hw))) ?_)
 rintro _ _ ⟨bb,L1,rfl,hL1,rfl⟩
 cases bb with
 | false=>
  obtain⟨hno,rfl⟩:(en=false∨jn ln=none)∧L1=yH B x:=hL1
  refine PE ?_
  refine CR (ay.void Z (L':=uo l (p8 r)::yH B x) (IP 0 Z (IP 0 Z (IP 0 Z (IP 0 Z (IP 0 Z ae.nil))))).ar ⟨false,x,?_,Z,Z⟩)
  rw[h4]
  rcases hno with h | h
  ·rw[if_neg iy]
  ·by_cases he:en=true
   ·rw[if_pos he,h]
   ·rw[if_neg he]
 | true=>
  obtain⟨p,he,hp,rfl⟩:∃p,en=true∧jn ln=some p∧L1=[mC B (x ++ [p])]:=hL1
  rw[if_pos he,hp] at h4
  refine Ff ?_
  refine VG (VO.st 2 Z Z Z Z Nat.zero_lt_one Z Z ?_)
  refine aq ?_
  have:=(hct he).1
  exact⟨(rs,x ++ [p],f),⟨by dsimp only;rw[ZM,List.length_singleton];omega,by dsimp only;omega,by dsimp only;omega,h4⟩,by dsimp only;omega,ba,ER⟩
theorem Et(s:ByteArray):aH Tryz.prog 23 [.string s] Fr w [] (fun v L=>∃bx,v=pT 40 [] [.pointer (some ⟨bx,0,none⟩)]∧L=[pt bx [.string s] SZ]):=by
 refine TF 4 Tryz.func23 Z yn ah Z Z ?_
 refine CS (CG (VG (VO.Sm Z fun bx=>?_)))
 refine aq ?_
 refine VG (VI (fI (u:=[]) (v:=[.pointer (some ⟨bx,0,none⟩)]) Z Z) ?_)
 refine aq ?_
 exact CR (ay.tmp 2 Z Z ER ⟨bx,Z,Z⟩)
theorem call40:dW Tryz.prog 40:=⟨_,Tryz.func40,by kernel_rfl,by kernel_rfl⟩
end Scr
namespace Scr
open Go Vg T Api LibC
attribute [local irreducible] VO VC VA VM VD
theorem ay.Jp{X:Cx}{fn:Func}{R:Value→List HP→Prop}{e:Env}{L:List HP}{T1 T2 T3 T4:TypeId}{t1 t2 t3 t4:TI}{b1 b2 b3 b4:Nat}{v1 v2 v3 v4:Value}(p1 p2 p3 p4:Nat)(h:fn.results=#[.cell p1 T1,.cell p2 T2,.cell p3 T3,.cell p4 T4])
  (hp1:Vg.look e p1=some (.pointer (some ⟨b1,0,none⟩))) (hT1:aL X.tab T1=some t1) (hr1:aE X L t1 b1 0 v1) (hp2:Vg.look e p2=some (.pointer (some ⟨b2,0,none⟩))) (hT2:aL X.tab T2=some t2) (hr2:aE X L t2 b2 0 v2)
  (hp3:Vg.look e p3=some (.pointer (some ⟨b3,0,none⟩))) (hT3:aL X.tab T3=some t3) (hr3:aE X L t3 b3 0 v3) (hp4:Vg.look e p4=some (.pointer (some ⟨b4,0,none⟩))) (hT4:aL X.tab T4=some t4) (hr4:aE X L t4 b4 0 v4)
  {L':List HP} (he:jq X L L') (hR:R (.tuple #[v1,v2,v3,v4]) L'):ay X fn R e L:=
 ⟨_,L',⟨fun a w ha hw=>by
  have h1:=fU (X.ok.look hT1) (hr1 w hw)
  have h2:=fU (X.ok.look hT2) (hr2 w hw)
  have h3:=fU (X.ok.look hT3) (hr3 w hw)
  have h4:=fU (X.ok.look hT4) (hr4 w hw)
  have q1:=ha.at_ p1 _ hp1
  have q2:=ha.at_ p2 _ hp2
  have q3:=ha.at_ p3 _ hp3
  have q4:=ha.at_ p4 _ hp4
  simp only[Array.getD_eq_getD_getElem?] at q1 q2 q3 q4
  simp[results,h,q1,q2,q3,q4,asAddr,h1,h2,h3,h4]⟩,he,hR⟩
theorem eS.kp{Fr:Nat→Prop}{w w':World}{b:Nat}{cs:List Value}(h:eS Fr w b cs)(hk:dH Fr w w'):eS Fr w' b cs:=by
 obtain⟨t,fz,ht⟩:=h.at_
 exact⟨h.fr,t,fz,(hk.block b h.fr).trans ht⟩
theorem eS.up{Fr Fr':Nat→Prop}{w:World}{b:Nat}{cs:List Value}(h:eS Fr w b cs)(hF:∀b,Fr b→Fr' b):eS Fr' w b cs:=by
 obtain⟨t,fz,ht⟩:=h.at_
 exact⟨hF b h.fr,t,fz,ht⟩
def S9(s:List UInt8)(v:Value)(L:List HP):Prop:=∃bb x,dR (s.length+1) s []=(bb,x)∧(if bb then ∃y:Es,v=.tuple #[.slice y.a x.length y.c,.slice y.b x.length y.d,.int .i64 0,.int .i64 0]∧L=[aI 33 8 y.a x.length y.c (flat dV (x.map Prod.fst)),aI FG 1 y.b x.length y.d (flat eC (x.map Prod.snd))]
 else v=.tuple #[.slice none 0 0,.slice none 0 0,.int .i64 ((x.length:Int)+1),.int .i64 10]∧L=[])
theorem jk(s:List UInt8)(hs:s.length≤900000)(hG:b9 Fr w)(hK:cy Fr w):aH Tryz.prog 10 [.string (bY s)] Fr w [] (S9 s):=by
 refine aH.ofM 41 Tryz.func10 Z yn ah Z Z ?_
 refine VM.QQ ?_
 refine CG (VG (VO.alloc Z fun lb=>?_))
 refine VG (VO.alloc Z fun tb=>?_)
 refine VG (VO.alloc Z fun mb=>?_)
 refine VG (VO.alloc Z fun eb=>?_)
 refine Bd ?_
 refine VM.QQ ?_
 refine CG (VG (VO.alloc Z fun nb=>?_))
 refine VG (VO.st 0 Z Z Z Z Nat.zero_lt_one Z Z ?_)
 obtain⟨B,hB⟩:∃B:Pg,B=⟨lb,tb,mb,eb,nb⟩:=⟨_,rfl⟩
 refine VG (VO.ar (L':=[mC B []]) (by subst hB;exact(ae.read ⟨none,0,none,0⟩ (IP 4 Z (IP 3 Z (IP 2 Z (IP 1 Z (IP 0 Z (ae.bZ (ae.bZ ae.nil)))))))).ar) ?_)
 refine Bd ?_
 refine VM.N6 ?_
 refine VM.QQ ?_
 refine aq ?_
 refine VG (VK (Lc:=[]) (fun Fr w hF hw hS=>Et Fr w (bY s)) Z Z ?_)
 rintro _ _ ⟨bx,rfl,rfl⟩
 refine VG (VO.ar (L':=[mC B [],pt bx [.string (bY s)] SZ]) (ae.perm (List.Perm.swap ..)).ar ?_)
 refine aq ?_
 refine VM.QS ?_
 refine VM.N7 (M:=fun L2=>∃x,dR (s.length+1) s []=(true,x)∧L2=[mC B x]) (N:=fun L2=>∃x,dR (s.length+1) s []=(false,x)∧L2=yH B x) Z call40 (fun l r Fr' w2 hF hK2 ha hst hpe hps has hbo=>?_) (fun D L2 h=>?_) (fun D L2 h=>?_)
 ·obtain⟨a,ha1,ha2⟩:=ha
  have hy:Y_ r l B:=by
   intro x t ended Fr w ht hx hG hK
   have key:=Wz ha1 (t:=14) (u:=15) rfl rfl (.string (bY t)) (.bool ended)
   rw[←ha2,←hps] at key
   refine Jo.of (vals:=[.string (bY t),.bool ended]) (tab:=tab) (ok:=ah) (n:=41) hst hpe key ?_
   generalize ({ r with state:=LoopState.busy }:Loop)=rb
   rw[has]
   refine aq ?_
   refine⟨rfl,_,Z,fun w2 hk=>?_⟩
   rw[hbo]
   have hG2:b9 Fr w2:=hG.cK (fun _ h=>h) hk
   have hK2:cy Fr w2:=eS.kp hK hk
   clear key ha1 ha2 has hbo hst hpe
   subst hB
   refine VC.block ?_
   refine VC.e_ 1 Z (aW.read _ x) ?_
   rintro y -
   refine Dv ?_
   refine Gd ?_
   refine aq ?_
   refine VG (VO.st 4 Z Z Z Z Nat.zero_lt_one Z Z ?_)
   refine aq ?_
   refine VG (VO.de (φ:=Pf t) (fun Fr' w hF hw hS=>wY Fr' w t ht (b9.st (X:=⟨Tryz.prog,tab,ah,41,_,_⟩) hG2 hF hw) (cy.st (X:=⟨Tryz.prog,tab,ah,41,_,_⟩) hK2 hF hw)) Z ?_)
   rintro _ (⟨d,e,hr,rfl⟩ | ⟨hr,rfl⟩)
   ·refine aq ?_
    refine VG (VO.alloc Z fun db=>?_)
    refine Ud ?_
    refine aq ?_
    cases ended with
    | false=>
     refine VG (VY 26 true Z Z ?_)
     refine KK ?_
     refine Vt ?_
     refine Vu ?_
     refine Ue ?_
     refine Uf ?_
     refine Ug ?_
     refine Vv ?_
     refine Vw ?_
     exact AG (AN (CR ⟨_,Z,.inr ⟨rfl,.inl Z,Z⟩⟩))
    | true=>
     refine VG (VY 26 false Z Z ?_)
     refine KR ?_
     refine jd ?_
     refine R3 ?_
     refine VG (VO.buildSlice (n:=1) (pv:=[(0,.agg (dV d).toArray)]) (dV d) Z Z Z Z yp (bJ Z Z Z) fun n1=>?_)
     refine VG (VO.append (m:=1) (news:=dV d) 7 Z Z Z Z Z Z Z (dt.pt 0 Z Z Z) Z (by show(x.length+1)*80≤_;omega) yd fun a2 c2 hc2=>?_)
     refine aq ?_
     refine VG (VO.st 3 Z Z Z Z Nat.zero_lt_one Z Z ?_)
     refine Dv ?_
     refine VG (VO.buildSlice (n:=1) (pv:=[(0,.int .i64 e)]) (eC e) Z Z Z Z yp (bJ Z Z Z) fun n2=>?_)
     refine VG (VO.append (m:=1) (news:=eC e) 9 Z Z Z Z Z Z Z (dt.pt 0 Z Z Z) Z (by show(x.length+1)*8≤_;omega) yd fun a3 c3 hc3=>?_)
     refine aq ?_
     refine VG (VO.st 6 Z Z Z Z Nat.zero_lt_one Z Z ?_)
     have hL:(x ++ [(d,e)]).length=x.length+1:=by simp
     have hF1:flat dV ((x ++ [(d,e)]).map Prod.fst)=flat dV (x.map Prod.fst)++dV d:=by simp[bf,bO,fg]
     have hF2:flat eC ((x ++ [(d,e)]).map Prod.snd)=flat eC (x.map Prod.snd)++eC e:=by simp[bf,bO,fg]
     refine VG (VO.ar (L':=uo l rb :: [mC ⟨lb,tb,mb,eb,nb⟩ (x ++ [(d,e)])]) (ae.ar (IP 10 Z (ae.read ⟨a2,c2,a3,c3⟩ ?_))) ?_)
     ·unfold yF
      rw[hL,hF1,hF2]
      exact(dF [5,5,5,5,5,2,0])
     exact VG (VN ⟨_,Z,.inl ⟨rfl,_,Z,hr,Z⟩⟩)
   ·refine aq ?_
    refine VG (VO.alloc Z fun db=>?_)
    refine Rt ?_
    refine aq ?_
    cases ended with
    | false=>
     refine VG (VY 26 true Z Z ?_)
     refine KK ?_
     refine Vt ?_
     refine Vu ?_
     refine Ue ?_
     refine Uf ?_
     refine Ug ?_
     refine Vv ?_
     refine Vw ?_
     exact AG (AN (CR ⟨_,Z,.inr ⟨rfl,.inl Z,Z⟩⟩))
    | true=>
     refine VG (VY 26 false Z Z ?_)
     refine KK ?_
     refine Vt ?_
     refine Vu ?_
     refine Ue ?_
     refine Uf ?_
     refine Ug ?_
     refine Vv ?_
     refine Vw ?_
     exact AG (AN (CR ⟨_,Z,.inr ⟨rfl,.inr hr,Z⟩⟩))
  exact Ring.aH.drop (Cr Fr' w2 hy (by rw[hps];rfl) s hs [] (by simpa using(by omega:s.length≤1000000)) (hG.cK hF hK2) (eS.up (eS.kp hK hK2) hF)) fun v L ⟨bb,x,hx,_,e⟩=>⟨L,⟨bb,_,e,by cases bb<;>exact⟨x,hx,rfl⟩⟩,ae.refl⟩
 ·obtain⟨x,hx,rfl⟩:=h
  refine .inl ⟨rfl,?_⟩
  subst hB
  refine VD.seq (VD.draw (ts 0 2 (.only 2 (.only 3 (.only 4 (.only 5 .nil))))) yn yr ?_)
  refine VA.e_ 1 Z (aW.read _ x) ?_
  rintro y -
  refine Gf ?_
  refine AG (VA.st 0 Z Z Z Z Z Nat.zero_lt_one Z Z yu ?_)
  refine Ue ?_
  refine Uf ?_
  refine Ug ?_
  refine VA.ar (L':=H3 D::yF ⟨lb,tb,mb,eb,nb⟩ x y) (IP 7 Z ae.refl).ar ?_
  refine AG (AN (VD.ret ⟨_,Z,?_⟩))
  exact ay.Jp 2 3 4 5 Z Z Z (aE.one 0 Z Z) Z Z (aE.one 1 Z Z) Z Z (aE.one 2 Z Z) Z Z (aE.one 3 Z Z) (IP 5 Z (IP 5 Z ae.nil)).ar ⟨true,x,hx,y,Z,Z⟩
 ·obtain⟨x,hx,rfl⟩:=h
  subst hB
  refine .inr ⟨rfl,_,Z,?_⟩
  exact ay.Jp 2 3 4 5 Z Z Z (aE.one 0 Z Z) Z Z (aE.one 1 Z Z) Z Z (aE.one 2 Z Z) Z Z (aE.one 3 Z Z) ae.nil.ar ⟨false,x,hx,Z,Z⟩
end Scr
namespace Cl
open Go Vg T Api
attribute [local irreducible] VO VC VA
abbrev qH:TypeId:=312
abbrev rR:TypeId:=155
def eN(o:gr):List Value:=[.int .i64 o.kind,.int .i64 o.reason,.int .i64 o.res.code,.string o.res.value,.int .i64 o.res.version,.int .i64 o.res.at_]
def jF:gr:=⟨0,0,⟨0,⟨#[]⟩,0,0⟩⟩
def vL(d k s:Int)(o:gr):List Value:=[.bool true,.int .u32 d,.int .i32 k,.int .u32 0,.int .u32 s]++eN o
def sZ:Option gr→List Value
 | none=>vL 0 0 0 jF
 | some o=>vL 1 0 1 o
theorem Hg:aH Tryz.prog 150 [] Fr w [] (fun v L=>∃p,v=.pointer (some ⟨p,0,none⟩)∧L=[pt p (sZ none) qH]):=by
 refine TF 3 Tryz.func150 Z yn ah Z Z ?_
 refine aq ?_
 refine VG (VI (LB (pv:=[(0,.bool true)]) (sZ none) Z Z Z yn Z) ?_)
 refine VG (VB (vs:=sZ none) Z fun q=>?_)
 refine aq ?_
 exact CR (ay.tmp 0 Z Z ER ⟨q,Z,Z⟩)
theorem qI{p:Nat}{d k s:Int}{o:gr}(h:eS Fr w p (vL d k s o)):aH Tryz.prog 203 [.pointer (some ⟨p,0,none⟩)] Fr w [] (fun v L=>v=.bool false∧L=[]):=by
 refine TF 12 Tryz.func203 Z yn ah Z Z ?_
 refine aJ ?_
 refine RW ?_
 refine zn ?_
 exact Dz
section
variable {X:Cx} {e:Env} {L:List HP}
theorem a8.QT{k:IntKind}{f:FuncId}{fn:Func}{x:Operand}{tys:Array TypeId}{b off:Nat}{n:Int}(h:Ext X.P f fn (Extern.Atomic.loadT (.int k)))(hx:ev e x=some (.pointer (some ⟨b,off,none⟩)))
  (hr:∀w,St X L w→w.cell? ⟨b,off,none⟩=some (.int k n)):a8 X (.call ⟨.value (.func f),#[x],tys⟩) e L (fun v L'=>v=.int k n∧L'=L):=fun a w ha hw dst ty pos after guard=>by
 refine .inl ⟨_,w,L,?_,⟨rfl,Z⟩,hw⟩
 rw[xH]
 have:(#[x]:Array Operand).map a.eval=#[.pointer (some ⟨b,off,none⟩)]:=by simp[ha.ev hx]
 rw[this]
 exact run_call_load h.at_ h.nm h.nb h.nn k h.ex (hr w hw)
theorem a8.N8{k:IntKind}{f:FuncId}{fn:Func}{x y:Operand}{tys:Array TypeId}{b off t:Nat}{m:Int}{u:Value}{cs:List Value}(i:Nat)(h:Ext X.P f fn Extern.Atomic.storeT)(hx:ev e x=some (.pointer (some ⟨b,off,none⟩)))
  (hy:ev e y=some (.int k m)) (hL:L[i]?=some (pt b cs t)) (hc:cs[off]?=some u):
  a8 X (.call ⟨.value (.func f),#[x,y],tys⟩) e L (fun v L'=>v=.tuple #[]∧L'=L.set i (pt b (cs.set off (.int k m)) t)):=fun a w ha hw dst ty pos after guard=>by
 obtain⟨h0,_⟩:=hw.zu hL
 refine .inl ⟨_,_,_,?_,⟨rfl,Z⟩,hw.set hL⟩
 rw[xH]
 have:(#[x,y]:Array Operand).map a.eval=#[.pointer (some ⟨b,off,none⟩),.int k m]:=by simp[ha.ev hx,ha.ev hy]
 rw[this,←kx h0]
 exact run_call_store h.at_ h.nm h.nb h.nn h.ex (by rw[cell_of_row w b off cs.toArray t (0,0) h0];simpa using hc) (frozen_of_row w b off cs.toArray t h0)
end
theorem Eu:Ext Tryz.prog 261 Tryz.f261 (Extern.Atomic.loadT (.int .u32)):=⟨Tryz.func261,by kernel_rfl,by kernel_rfl,by kernel_rfl,by kernel_rfl⟩
theorem Cs:Ext Tryz.prog 310 Tryz.f310 Extern.Atomic.storeT:=⟨Tryz.func310,by kernel_rfl,by kernel_rfl,by kernel_rfl,by kernel_rfl⟩
theorem qJ{p off:Nat}{cs:List Value}{n:Int}(h:eS Fr w p cs)(hn:cs[off]?=some (.int .u32 n)):aH Tryz.prog 204 [.pointer (some ⟨p,off,none⟩)] Fr w [] (fun v L=>v=.bool (n != 0)∧L=[]):=by
 obtain⟨hf,t,fz,ht⟩:=h
 refine TF 8 Tryz.func204 Z yn ah Z Z ?_
 refine aq ?_
 refine VG (VO.wG (v:=.int .u32 n) (a8.QT (X:=⟨Tryz.prog,tab,ah,8,Fr,w⟩) Eu Z (fun w' hw=>?_)) ?_)
 ·have hb:w'.heap[p]?=some (.cells cs.toArray t fz):=(hw.cK.block p hf).trans ht
  have:=cell_of_row w' p off cs.toArray t fz hb
  rw[this];simpa using hn
 refine aq ?_
 exact Dz
theorem Jq(b:Bool):aH Tryz.prog 311 [.bool b] Fr w [] (fun v L=>v=.int .u32 (if b then 1 else 0)∧L=[]):=by
 refine TF 4 Tryz.func311 Z yn ah Z Z ?_
 refine aq ?_
 refine CC Z (fun h=>?_) (fun h=>CK ?_)
 ·subst h
  refine aq ?_
  exact Dz
 ·subst h
  refine aq ?_
  exact Dz
theorem Ct{p off:Nat}{T:TypeId}{cs:List Value}{u:Value}(b:Bool)(hu:cs[off]?=some u):aH Tryz.prog 305 [.pointer (some ⟨p,off,none⟩),.bool b] Fr w [pt p cs T] (fun v L=>v=.tuple #[]∧L=[pt p (cs.set off (.int .u32 (if b then 1 else 0))) T]):=by
 refine TF 10 Tryz.func305 Z yn ah Z Z ?_
 refine CD (ts 0 4 (.only 4 (.only 5 .nil))) yn yr ?_
 refine jo ?_
 refine AG (AR (fun Fr w hF hs hS=>Jq Fr w b) Z Z yu ?_)
 refine AG (AO (a8.N8 (k:=.u32) 0 Cs rfl rfl rfl hu) rfl (fun v L' g=>by obtain⟨rfl,rfl⟩:=g;exact Dy) ?_)
 rintro _ _ ⟨rfl,rfl⟩
 refine jo ?_
 exact Py
theorem Hh{p:Nat}(o:Option gr)(h:eS Fr w p (sZ o)):aH Tryz.prog 122 [.pointer (some ⟨p,0,none⟩)] Fr w [] (fun v L=>v=.tuple #[.agg (eN (o.getD jF)).toArray,.bool o.isSome]∧L=[]):=by
 refine TF 18 Tryz.func122 Z yn ah Z Z ?_
 refine CS (CG (VG (VO.alloc Z fun b2=>?_)))
 refine aJ ?_
 cases o with
 | none=>
  refine VG (VV (fun Fr w hF hw _=>qI Fr w (d:=0) (k:=0) (s:=0) (o:=jF) (h.of hF hw)) Z ?_)
  refine aJ ?_
  refine VG (VY 6 false Z Z ?_)
  refine aJ ?_
  refine VG (VV (fun Fr w hF hw _=>qJ Fr w (h.of hF hw) Z) Z ?_)
  refine wI ?_
  refine VG (VI (LB (pv:=[]) (eN jF) Z Z Z yn Z) ?_)
  refine Yp ?_
  refine aJ ?_
  exact Yq
 | some o=>
  refine VG (VV (fun Fr w hF hw _=>qI Fr w (d:=1) (k:=0) (s:=1) (o:=o) (h.of hF hw)) Z ?_)
  refine aJ ?_
  refine VG (VY 6 false Z Z ?_)
  refine aJ ?_
  refine VG (VV (fun Fr w hF hw _=>qJ Fr w (h.of hF hw) Z) Z ?_)
  refine KR ?_
  refine aJ ?_
  refine VG (VO.load Z Z (aE.lG (ds:=eN o) h Z) ?_)
  refine VG (VT (vs:=eN o) (cs':=eN o) 0 Z Z Z Z (NR _) Z Z Z ?_)
  refine aJ ?_
  exact CR (ay.aT 2 3 Z Z Z (aE.many (ds:=eN o) 0 Z Z) Z ae.nil.ar ⟨rfl,Z⟩)
theorem Hi{p b2 b3 b5:Nat}{o o0:gr}{d k:Int}:aH Tryz.prog 304 [.pointer (some ⟨b3,0,none⟩),.pointer (some ⟨b2,0,none⟩),.pointer (some ⟨b5,0,none⟩)] Fr w
  [pt p (vL d k 0 o0) qH,pt b2 [.pointer (some ⟨p,0,none⟩)] 136,pt b3 (eN o) rR,pt b5 [.bool false] 4]
  (fun v L=>v=.tuple #[]∧L=[pt p (vL d k 1 o) qH,pt b2 [.pointer (some ⟨p,0,none⟩)] 136,pt b3 (eN o) rR,pt b5 [.bool true] 4]):=by
 refine TF 11 Tryz.func304 Z yn ah Z Z ?_
 refine CS (CG (VG (VO.ld 1 Z Z Z Z ?_)))
 refine VG (VL 2 (eN o) Z Z Z Z ?_)
 refine VG (VT (vs:=eN o) (cs':=vL d k 0 o) 0 Z Z Z Z (NR _) Z Z Z ?_)
 refine aq ?_
 refine Rp ?_
 refine aq ?_
 refine VG (VK (Lc:=[pt p (vL d k 0 o) qH]) (fun Fr w hF hw _=>Ct Fr w (off:=4) true Z) Z Z ?_)
 rintro _ _ ⟨rfl,rfl⟩
 refine aq ?_
 refine VG (VO.st 3 (cs':=[.bool true]) Z Z Z Z Nat.zero_lt_one Z Z ?_)
 refine aq ?_
 exact Py
end Cl
namespace Cl
open Go Vg T Api
theorem Cu(w:World):(callFunc 318 #[]).run Tryz.prog w=.ok (.value (.tuple #[])) w:=run_call_mark0 Tryz.func318 yn yn yn .disable yn w
theorem FH(w:World):(callFunc 320 #[]).run Tryz.prog w=.ok (.value (.tuple #[])) w:=run_call_mark0 Tryz.func320 yn yn yn .enable yn w
theorem Jr(a:Addr)(w:World):(callFunc 321 #[.pointer (some a)]).run Tryz.prog w=.ok (.value (.tuple #[])) w:=run_call_marked Tryz.func321 yn yn yn .acquire yn a w
theorem Js(a:Addr)(w:World):(callFunc 323 #[.pointer (some a)]).run Tryz.prog w=.ok (.value (.tuple #[])) w:=run_call_marked Tryz.func323 yn yn yn .releaseMerge yn a w
theorem Ev(a:Addr)(x:Value)(u:FrameMode)(w:World)(hc:w.cell? a=some x)(hz:w.frozen? a=false):
  CallsD Tryz.prog 305 #[.pointer (some a),.bool true] u w fun e u' w'=>u'=u∧(e=.returned (.tuple #[])∧w'=w.drew.setCell a (.int .u32 1)):=by
 have hc':w.drew.cell? a=some x:=by go_simp
 have hz':w.drew.frozen? a=false:=by go_simp
 have hst:=run_call_store (P:=Tryz.prog) Tryz.func310 yn yn yn yn (k:=.u32) (y:=1) hc' hz'
 go_enter_d Tryz.func305,Tryz.ntmps305
 go_wp2
 go_region_calls
 all_goals (go_end0;exact⟨rfl,rfl⟩)
theorem Cv(a:Addr)(u:FrameMode)(w:World)(hc:w.cell? a=some (.int .i32 1))(hz:w.frozen? a=false):
  CallsD Tryz.prog 314 #[.pointer (some a)] u w fun e u' w'=>u'=u∧(e=.returned (.tuple #[])∧w'=w.setCell a (.int .i32 0)):=by
 have hd:=Cu
 have he:=FH
 have hr:=Js
 have hadd:=run_call_add (P:=Tryz.prog) Tryz.func324 yn yn yn .i32 yn (y:=-1) (s:=0) hc hz (by simp[go_sem];rfl)
 have hcv:=run_convert_to_unsafe (P:=Tryz.prog) (src:=402) (dst:=141) Tryz.underlying402 Tryz.underlying141 yn hc
 go_enter_d Tryz.func314,Tryz.ntmps314
 go_wp2
 go_end0
 go_wp2
 go_end0
 exact⟨rfl,Z⟩
theorem Hj(a:Addr)(w:World)(hc:w.cell? a=some (.int .i32 0))(hz:w.frozen? a=false):
  Calls Tryz.prog 313 #[.pointer (some a)] w fun e w'=>e=.returned (.tuple #[])∧w'=w.setCell a (.int .i32 1):=by
 have hd:=Cu
 have he:=FH
 have ha:=Jr
 have hcas:=run_call_cas_hit (P:=Tryz.prog) Tryz.func319 yn yn yn .i32 yn (y:=1) hc hz
 have hc':(w.setCell a (.int .i32 1)).cell? a=some (.int .i32 1):=World.cell?_setCell_same w a _ hc
 have hcv:=run_convert_to_unsafe (P:=Tryz.prog) (src:=402) (dst:=141) Tryz.underlying402 Tryz.underlying141 yn hc'
 go_enter Tryz.func313,Tryz.ntmps313
 go_wp2
 first | go_end0 | (simp only[Exit.inBlock,Exit.then];refine bodyPost_ret (results_none rfl _ _ _) rfl ?_) | refine bodyPost_ret (results_none rfl _ _ _) rfl ?_
 go_wp2
 go_end0
 exact⟨rfl,Z⟩
end Cl
namespace Cl
open Go Vg T Api
abbrev UE:TypeId:=136
def Az(p b2 b3 b5:Nat)(d k s:Int)(o0 o:gr)(f:Bool):List HP:=[pt p (vL d k s o0) qH,pt b2 [.pointer (some ⟨p,0,none⟩)] UE,pt b3 (eN o) rR,pt b5 [.bool f] 4]
theorem o6{Fr:Nat→Prop}{L:List HP}{w:World}{b t:Nat}{cs:List Value}(h:Sat Fr (pt b cs t::L) w):w.heap[b]?=some (.cells cs.toArray t (0,0))∧¬Fr b:=by
 obtain⟨F,⟨i,G,rfl,⟨rfl,hi⟩,hG⟩,hn,hb⟩:=h
 exact⟨hi,(hb b yf).1⟩
theorem AA{Fr:Nat→Prop}{L:List HP}{w:World}{b t off:Nat}{cs:List Value}{v:Value}(hlow:∀x,Fr x→x<w.heap.size)(h:Sat Fr (pt b cs t::L) w):
  Sat Fr (pt b (cs.set off v) t::L) (w.setCell ⟨b,off,none⟩ v)∧dH Fr w (w.setCell ⟨b,off,none⟩ v):=by
 obtain⟨h0,hf⟩:=o6 h
 have hst:St (X:=⟨Tryz.prog,tab,ah,0,Fr,w⟩) (pt b cs t::L) w:=⟨h,dH.refl _ _,hlow⟩
 have:=hst.set (i:=0) (cs':=cs.set off v) rfl
 rw[←kx h0] at this
 exact⟨this.sat,this.cK⟩
theorem o7{Fr:Nat→Prop}{w w':World}(hlow:∀x,Fr x→x<w.heap.size)(h:dH Fr w w'):∀x,Fr x→x<w'.heap.size:=fun x hx=>Nat.lt_of_lt_of_le (hlow x hx) h.size
theorem uq{w:World}{b t off:Nat}{cs:List Value}{v:Value}(h:w.heap[b]?=some (.cells cs.toArray t (0,0)))(hv:cs[off]?=some v):w.cell? ⟨b,off,none⟩=some v:=by
 rw[cell_of_row w b off cs.toArray t (0,0) h];simpa using hv
theorem s3{w:World}{b t off:Nat}{cs:List Value}(h:w.heap[b]?=some (.cells cs.toArray t (0,0))):w.frozen? ⟨b,off,none⟩=false:=frozen_of_row w b off cs.toArray t h
theorem Cw{p b2 b3 b5:Nat}{o0 o:gr}:aH Tryz.prog 309 [.pointer (some ⟨p,1,none⟩),pT 304 [] [.pointer (some ⟨b3,0,none⟩),.pointer (some ⟨b2,0,none⟩),.pointer (some ⟨b5,0,none⟩)]] Fr w
  (Az p b2 b3 b5 0 0 0 o0 o false) (fun v L=>v=.tuple #[]∧L=Az p b2 b3 b5 1 0 1 o o true):=by
 refine⟨⟨_,Tryz.func309,by kernel_rfl,by kernel_rfl⟩,fun hlow hsat=>?_⟩
 show Calls _ _ #[.pointer (some ⟨p,1,none⟩),.func (.func 304) #[] #[.pointer (some ⟨b3,0,none⟩),.pointer (some ⟨b2,0,none⟩),.pointer (some ⟨b5,0,none⟩)]] w _
 obtain⟨h0,hf⟩:=o6 hsat
 obtain⟨hs1,hk1⟩:=AA (off:=2) (v:=.int .i32 1) hlow hsat
 have hlow1:=o7 hlow hk1
 have hs1':Sat Fr (Az p b2 b3 b5 0 1 0 o0 o false) (w.setCell ⟨p,2,none⟩ (.int .i32 1)):=hs1
 have hset:=(Hi Fr (w.setCell ⟨p,2,none⟩ (.int .i32 1)) (p:=p) (b2:=b2) (b3:=b3) (b5:=b5) (o:=o) (o0:=o0) (d:=0) (k:=1)).calls hlow1 hs1'
 have h01:=(o6 hs1).1
 have hl:=run_call_load (P:=Tryz.prog) Tryz.func261 yn yn yn .u32 yn (w:=w.setCell ⟨p,2,none⟩ (.int .i32 1)) (a:=⟨p,1,none⟩) (x:=0) (uq h01 rfl)
 have hnot:∀(x:Bool) (w:World),(Op.unary .not (.bool x)).run Tryz.prog w=.ok (.bool (!x)) w:=fun _ _=>rfl
 go_enter_defers Tryz.func309,Tryz.ntmps309
 go_wp2_with (go_at_call 313;refine(Hj ⟨p,2,none⟩ _ (uq h0 rfl) (s3 h0)).mono ?_;rintro e w' ⟨rfl,rfl⟩)
 go_wp2_with (first | (go_at_call 304;refine hset.mono ?_;rintro e w' ⟨v,L',rfl,⟨rfl,rfl⟩,hs2,hk2⟩) | (go_at_call 204;go_in))
 have hs2':Sat Fr (pt p (vL 0 1 1 o) qH :: [pt b2 [.pointer (some ⟨p,0,none⟩)] UE,pt b3 (eN o) rR,pt b5 [.bool true] 4]) w':=hs2
 have hlow2:=o7 hlow1 hk2
 have h02:=(o6 hs2').1
 have hs3:Sat Fr (pt p (vL 0 1 1 o) qH :: [pt b2 [.pointer (some ⟨p,0,none⟩)] UE,pt b3 (eN o) rR,pt b5 [.bool true] 4]) w'.drew:=hs2'.heap rfl
 have hk3:dH Fr w' w'.drew:=dH.drew _ _
 obtain⟨hs4,hk4⟩:=AA (off:=1) (v:=.int .u32 1) (o7 hlow2 hk3) hs3
 have h04:=(o6 hs4).1
 obtain⟨hs5,hk5⟩:=AA (off:=2) (v:=.int .i32 0) (o7 (o7 hlow2 hk3) hk4) hs4
 refine leaves_cons (f:=305) (args:=#[.pointer (some ⟨p,1,none⟩),.bool true]) yf (by simp[go_sem]) ?_
 refine(Ev ⟨p,1,none⟩ (.int .u32 0) .returning _ (uq h02 Z) (s3 h02)).mono ?_
 rintro e u' w'' ⟨rfl,rfl,rfl⟩
 refine leaves_cons (f:=314) (args:=#[.pointer (some ⟨p,2,none⟩)]) (by simp[settle]) (by simp[go_sem]) ?_
 refine(Cv ⟨p,2,none⟩ _ _ (uq h04 Z) (s3 h04)).mono ?_
 rintro e u' w'' ⟨rfl,rfl,rfl⟩
 have hres:∃v L',Ending.returned (.tuple #[])=Ending.returned v∧(v=.tuple #[]∧L'=Az p b2 b3 b5 1 0 1 o o true)∧Sat Fr L' ((w'.drew.setCell ⟨p,1,none⟩ (.int .u32 1)).setCell ⟨p,2,none⟩ (.int .i32 0))∧dH Fr w ((w'.drew.setCell ⟨p,1,none⟩ (.int .u32 1)).setCell ⟨p,2,none⟩ (.int .i32 0)):=
  ⟨_,_,rfl,⟨rfl,rfl⟩,hs5,(((hk1.trans hk2).trans hk3).trans hk4).trans hk5⟩
 simpa[Leaves,settle,results,Tryz.results309] using hres
end Cl
namespace Vg
open Go
section
variable {X:Cx} {e:Env}
theorem o8{T:TypeId}{x y:Operand}{tt:TI}{s:ByteArray}{k:IntKind}{j:Int}(lo:Nat)(hx:ev e x=some (.string s))(hy:ev e y=some (.int k j))
  (hT:aL X.tab T=some tt) (hu:tt.aU=.string) (hj:j=lo) (hl:lo≤s.size):cY X (.slice T x (some y) none none) e (.string (s.extract lo s.size)):=by
 intro a ha dst ty pos after guard w
 have hd:=hU (X.ok.look hT) hu
 subst hj
 simp[execOp,ha.ev hx,ha.ev hy,Instr.sliceAt,Instr.slice,Instr.sliceBounds,Instr.sliceBound,asIntOf,run_underlying hd,hl]
theorem yI{T:TypeId}{x y:Operand}{tt:TI}{s:ByteArray}{k:IntKind}{j:Int}(hi:Nat)(hx:ev e x=some (.string s))(hy:ev e y=some (.int k j))
  (hT:aL X.tab T=some tt) (hu:tt.aU=.string) (hj:j=hi) (hl:hi≤s.size):cY X (.slice T x none (some y) none) e (.string (s.extract 0 hi)):=by
 intro a ha dst ty pos after guard w
 have hd:=hU (X.ok.look hT) hu
 subst hj
 simp[execOp,ha.ev hx,ha.ev hy,Instr.sliceAt,Instr.slice,Instr.sliceBounds,Instr.sliceBound,asIntOf,run_underlying hd,hl]
theorem vM{xt yt:TypeId}{x y:Operand}{a n:Nat}{k j:IntKind}(z:Int)(hx:ev e x=some (.int j (a:Int)))(hy:ev e y=some (.int k (n:Int)))(hn:n≤j.bits)(hz:j.wrap (((a*2 ^ n:Nat)):Int)=z):cY X (.binOp .shl xt x y yt) e (.int j z):=by
 intro a' ha dst ty pos after guard w
 have h8:min ((n:Int).toNat) j.bits=n:=Nat.min_eq_left hn
 have h2:(a:Int)*2 ^ n=((a*2 ^ n:Nat):Int):=by simp
 have h:Op.shift .shl j (a:Int) k (n:Int)=pure (.int j z):=by
  unfold Op.shift
  rw[if_neg yd,h8]
  simp only[h2]
  rw[hz]
 simp only[execOp,ha.ev hx,ha.ev hy]
 show((do eqGuard .shl xt x y (.int j a) (.int k n);Op.shift .shl j a k n:Sem Value) >>= fun v=>pure (Next.value v)).run X.P w=_
 rw[h];rfl
theorem Ew{xt yt:TypeId}{x y:Operand}{a n:Nat}{k j:IntKind}(hx:ev e x=some (.int j (a:Int)))(hy:ev e y=some (.int k (n:Int)))(hn:n≤j.bits):cY X (.binOp .shr xt x y yt) e (.int j ((a / 2 ^ n:Nat):Int)):=by
 intro a' ha dst ty pos after guard w
 have h8:min ((n:Int).toNat) j.bits=n:=Nat.min_eq_left hn
 have h2:((2:Int) ^ n)=((2 ^ n:Nat):Int):=by simp
 have hd:(a:Int).fdiv (2 ^ n)=((a / 2 ^ n:Nat):Int):=by
  rw[h2,Int.fdiv_eq_ediv_of_nonneg _ (Int.natCast_nonneg _)];rfl
 have h:Op.shift .shr j (a:Int) k (n:Int)=pure (.int j ((a / 2 ^ n:Nat):Int)):=by
  unfold Op.shift
  rw[if_neg yd,h8]
  simp only[hd]
 simp only[execOp,ha.ev hx,ha.ev hy]
 show((do eqGuard .shr xt x y (.int j a) (.int k n);Op.shift .shr j a k n:Sem Value) >>= fun v=>pure (Next.value v)).run X.P w=_
 rw[h];rfl
theorem wrap_u64{n:Int}(h0:0≤n)(h1:n<18446744073709551616):IntKind.u64.wrap n=n:=by
 simp[IntKind.wrap,IntKind.bits,IntKind.signed];omega
theorem Ex{xt yt:TypeId}{x y:Operand}{a b:Nat}(hx:ev e x=some (.int .u64 (a:Int)))(hy:ev e y=some (.int .u64 (b:Int)))(ha:a<18446744073709551616)(hb:b<18446744073709551616):cY X (.binOp .or xt x y yt) e (.int .u64 ((a ||| b:Nat):Int)):=by
 intro a' hag dst ty pos after guard w
 have hlt:a ||| b<18446744073709551616:=by
  have:a ||| b<2 ^ 64:=Nat.or_lt_two_pow (by simpa using ha) ym
  simpa using this
 have f1:∀c:Nat,c<18446744073709551616→(BitVec.ofInt 64 (c:Int)).toNat=c:=fun c hc=>by simp;omega
 have h:Op.intBits .or .u64 (a:Int) (b:Int)=pure (.int .u64 ((a ||| b:Nat):Int)):=by
  have e1:(BitVec.ofInt 64 (a:Int) ||| BitVec.ofInt 64 (b:Int)).toNat=a ||| b:=by rw[BitVec.toNat_or,f1 a ha,f1 b hb]
  have e2:IntKind.u64.wrap ((BitVec.ofInt 64 (a:Int) ||| BitVec.ofInt 64 (b:Int)).toNat:Int)=((a ||| b:Nat):Int):=by rw[e1];exact wrap_u64 yd yd
  show(pure (.int .u64 (IntKind.u64.wrap ((BitVec.ofInt 64 (a:Int) ||| BitVec.ofInt 64 (b:Int)).toNat:Int))):Sem Value)=_
  rw[e2]
 simp only[execOp,hag.ev hx,hag.ev hy]
 show((do eqGuard .or xt x y (.int .u64 a) (.int .u64 b);Op.intBits .or .u64 a b:Sem Value) >>= fun v=>pure (Next.value v)).run X.P w=_
 rw[h];rfl
end
theorem AB{X:Cx}{e:Env}{T:TypeId}{x y z u:Operand}{tt te:TI}{el len cap:Nat}{a:Option Addr}{k k' k'':IntKind}{i j m:Int}(lo hi mx:Nat)(hx:ev e x=some (.slice a len cap))(hy:ev e y=some (.int k i))(hz:ev e z=some (.int k' j))(hw:ev e u=some (.int k'' m))
  (hT:aL X.tab T=some tt) (hu:tt.aU=.slice el) (hE:aL X.tab el=some te) (hlo:i=lo) (hhi:j=hi) (hmx:m=mx) (h1:lo≤hi) (h2:hi≤mx) (h3:mx≤cap):
  cY X (.slice T x (some y) (some z) (some u)) e (.slice (if mx=lo then a else a.map (·.add (lo*te.size))) (hi-lo) (mx-lo)):=by
 intro ac ha dst ty pos after guard w
 have hd:=e9 (X.ok.look hT) hu
 obtain⟨i2,hi2,hs2,_,_⟩:=(X.ok.look hE).kY
 subst hlo;subst hhi;subst hmx
 simp[execOp,ha.ev hx,ha.ev hy,ha.ev hz,ha.ev hw,Instr.sliceAt,Instr.slice,Instr.sliceBounds,Instr.sliceBound,asIntOf,run_underlying hd,h1,h2,h3,dI hi2,hs2]
theorem a8.vN{X:Cx}{e:Env}{L:List HP}{t el esz n cap m g:Nat}{tt te:TI}{x y:Operand}{cs news:List Value}{v:Value}(i:Nat)
  (hx:ev e x=some (.slice (some ⟨g,0,none⟩) n cap)) (hy:ev e y=some v) (hL:L[i]?=some (pt g cs el)) (hT:aL X.tab t=some tt) (hu:tt.aU=.slice el) (hE:aL X.tab el=some te) (hesz:te.size=esz)
  (hr:dt X L v esz m news) (h1:news.all Value.oneCell'=true) (hroom:n+m≤cap) (hfit:n*esz+news.length≤cs.length):
  a8 X (.call ⟨.builtin .append,#[x,y],#[t,t]⟩) e L (fun u L'=>u=.slice (some ⟨g,0,none⟩) (n+m) cap∧L'=L.set i (pt g (ki cs (n*esz) news) el)):=by
 intro ac w ha hw dst ty pos after guard
 have hund:=e9 (X.ok.look hT) hu
 have hok:=X.ok.look hE
 obtain⟨ti,hi,hsz,hbt,hz⟩:=hok.kY
 have hexec:∀u w',(Builtin.append_ #[t,t] ty #[.slice (some ⟨g,0,none⟩) n cap,v]).run X.P w=.ok u w' →
   (execOp ac.eval ⟨dst,.call ⟨.builtin .append,#[x,y],#[t,t]⟩,ty,pos,after,guard⟩).run X.P w=.ok (.value u) w':=fun u w' h=>by
  simp[execOp,resolve,invoke,builtin,ha.ev hx,ha.ev hy,h]
 obtain⟨h0,hf⟩:=hw.zu hL
 obtain⟨hnl,hrd⟩:=hr
 rcases hrd with ⟨d,c,rfl,rfl⟩ | ⟨b,off,c,rfl,hrg⟩
 ·have hn0:news=[]:=List.eq_nil_of_length_eq_zero (by simpa using hnl)
  subst hn0
  refine .inl ⟨_,w,_,hexec _ _ (tm hund hi (some ⟨g,0,none⟩) d n cap c yd ty),⟨rfl,Z⟩,?_⟩
  rw[zr]
  have hset:L.set i (pt g cs el)=L:=by
   refine List.ext_getElem? fun j=>?_
   by_cases e:i=j
   ·subst e;rw[Z9 (ZP.1 hL).1,hL]
   ·rw[List.getElem?_set_ne e]
  rw[hset];exact hw
 ·have hnews:∀j u,news[j]?=some u→w.cell? ((⟨b,off,none⟩:Addr).add j)=some u:=fun j u hj=>by rw[Addr.add_mid];exact hrg w hw j u hj
  have h1':∀u∈news,u.oneCell'=true:=List.all_eq_true.1 h1
  have hrun:=run_append_room (P:=X.P) w t ty el ti hund hi g n cap _ h0 ⟨b,off,none⟩ m c news (by rw[hsz,hesz];exact hnl) hnews h1' hroom (by rw[hsz,hesz];simpa using hfit)
  have e2:cs.toArray.toList.take (n*ti.size)++news++cs.toArray.toList.drop (n*ti.size+news.length)=ki cs (n*esz) news:=by rw[hsz,hesz];rfl
  rw[e2] at hrun
  have e3:w.setRow g (ki cs (n*esz) news).toArray=bC w g (.cells (ki cs (n*esz) news).toArray el (0,0)):=by
   unfold World.setRow bC
   have hlt:=(Array.getElem?_eq_some_iff.1 h0).1
   refine congrArg (fun h=>({ w with heap:=h }:World)) (Array.ext_getElem? fun j=>?_)
   rw[Array.getElem?_modify,Array.getElem?_setIfInBounds]
   by_cases e:g=j
   ·subst e;rw[if_pos rfl,if_pos rfl,if_pos hlt,h0];rfl
   ·rw[if_neg e,if_neg e]
  rw[e3] at hrun
  exact .inl ⟨_,_,_,hexec _ _ hrun,⟨rfl,Z⟩,hw.set hL⟩
section
variable {α:Type} {c:α→List Value} {n:Nat}
theorem erase_eq(l:List α)(i:Nat):l.eraseIdx i=l.take i++l.drop (i+1):=List.eraseIdx_eq_take_drop_succ l i
theorem Jt(h:∀a,(c a).length=n){l:List α}{i:Nat}(hi:i<l.length)(rest:List Value):∃z,z.length=n∧ki (flat c l++rest) (i*n) (flat c (l.drop (i+1)))=flat c (l.eraseIdx i)++(z++rest):=by
 obtain⟨x,hx⟩:∃x,l[i]?=some x:=⟨_,GE hi⟩
 have hd:l.drop i=x::l.drop (i+1):=by
  obtain⟨h1,h2⟩:=ZP.1 hx
  rw[List.drop_eq_getElem_cons h1,h2]
 have hl:flat c l=flat c (l.take i)++(c x++flat c (l.drop (i+1))):=by rw[←bO,←hd,←bf,List.take_append_drop]
 have ha:(flat c (l.take i)).length=i*n:=by rw[bp h,Z1];congr 1;omega
 refine⟨(c x++flat c (l.drop (i+1))).drop (flat c (l.drop (i+1))).length,by rw[List.length_drop,ZM,h];omega,?_⟩
 rw[erase_eq,bf,hl]
 generalize flat c (l.take i)=A at ha
 generalize flat c (l.drop (i+1))=D
 unfold ki
 have e1:(A++(c x++D)++rest).take (i*n)=A:=by rw[ZX];exact List.take_left' ha
 have e2:(A++(c x++D)++rest).drop (i*n+D.length)=(c x++D).drop D.length++rest:=by
  rw[←ha,←List.drop_drop,ZX,List.drop_left' rfl,List.drop_append_of_le_length Km]
 rw[e1,e2,ZX]
theorem FI{A z zs rest:List Value}{k:Nat}(hA:A.length=k)(hz:zs.length=z.length):ki (A++(z++rest)) k zs=A++(zs++rest):=by
 unfold ki
 subst hA
 rw[List.take_left' rfl,List.drop_append,hz]
 simp
end
theorem ae.UF{L M:List HP}{el esz b n:Nat}{cs:List Value}(hc:cs.length=n*esz)(h:ae L (pt b cs el::M)):ae L (aI el esz (some ⟨b,0,none⟩) n n cs::M):=by
 have:=ae.sl (L:=L) (M:=M) (el:=el) (b:=b) (rest:=[]) (cap:=n) hc (NR _) (by rw[ZN];exact hc) (by rw[ZN];exact h)
 exact this
theorem Ju{n b:Nat}(hb:b<256):(n*256) ||| b=n*256+b:=by
 have h:n*256=n <<< 8:=by rw[Nat.shiftLeft_eq]
 rw[h,Nat.shiftLeft_add_eq_or_of_lt ym]
end Vg
namespace Cl
open Go Vg T Api
attribute [local irreducible] VO VC VA
theorem Cy{p b2 b3 b5:Nat}{o0 o:gr}:aH Tryz.prog 303 [.pointer (some ⟨p,1,none⟩),pT 304 [] [.pointer (some ⟨b3,0,none⟩),.pointer (some ⟨b2,0,none⟩),.pointer (some ⟨b5,0,none⟩)]] Fr w
  (Az p b2 b3 b5 0 0 0 o0 o false) (fun v L=>v=.tuple #[]∧L=Az p b2 b3 b5 1 0 1 o o true):=by
 refine TF 12 Tryz.func303 Z yn ah Z Z ?_
 refine aq ?_
 refine VG (VV (fun Fr w hF hw hS=>qJ Fr w (n:=0) (hS.aP 0 Z) Z) Z ?_)
 refine PI ?_
 refine VG (VK (Lc:=Az p b2 b3 b5 0 0 0 o0 o false) (Lr:=[]) (fun Fr w hF hw _=>Cw Fr w) Z (ZN _).symm ?_)
 rintro _ _ ⟨rfl,rfl⟩
 refine aq ?_
 exact ay.void Z ER ⟨rfl,ZN _⟩
theorem Hk{p:Nat}{o:gr}(h1:1≤o.kind)(h2:o.kind≤3):aH Tryz.prog 283 [.pointer (some ⟨p,0,none⟩),.agg (eN o).toArray] Fr w [pt p (sZ none) qH] (fun v L=>v=.bool true∧L=[pt p (sZ (some o)) qH]):=by
 refine TF 24 Tryz.func283 Z yn ah Z Z ?_
 refine CS (CG (VG (VO.Sm Z fun b2=>VG (VB (vs:=eN o) Z fun b3=>VG (VN ?_)))))
 refine wH ?_
 refine VG (VV (fun Fr w hF hw hS=>qI Fr w (p:=p) (d:=0) (k:=0) (s:=0) (o:=jF) (hS.aP 2 Z)) Z ?_)
 refine aJ ?_
 refine VG (VY 8 false Z Z ?_)
 refine eR ?_
 refine VG (VY 13 false Z (DF yd) ?_)
 refine eR ?_
 refine CP (p:=3<o.kind) Z (fun h=>absurd h yd) (fun h=>CK ?_)
 refine aJ ?_
 refine VG (VO.alloc Z fun b5=>?_)
 refine VG (VO.st 0 (cs':=[.bool false]) Z Z Z Z Nat.zero_lt_one Z Z ?_)
 refine pQ ?_
 refine VG (VI (fI (u:=[]) (v:=[.pointer (some ⟨b3,0,none⟩),.pointer (some ⟨b2,0,none⟩),.pointer (some ⟨b5,0,none⟩)]) Z Z) ?_)
 refine VO.ar (L':=Az p b2 b3 b5 0 0 0 jF o false) (dF [3,2,1,0]).ar ?_
 refine VG (VK (Lc:=Az p b2 b3 b5 0 0 0 jF o false) (Lr:=[]) (fun Fr w hF hw _=>Cy Fr w) Z (ZN _).symm ?_)
 rintro _ _ ⟨rfl,rfl⟩
 show VO _ _ _ _ _ [pt p (vL 1 0 1 o) qH,pt b2 [.pointer (some ⟨p,0,none⟩)] UE,pt b3 (eN o) rR,pt b5 [.bool true] 4] _
 refine aJ ?_
 refine VG (VO.ld 3 Z Z Z Z ?_)
 refine aJ ?_
 exact CR (ay.tmp 4 Z Z (IP 0 Z ae.nil).ar ⟨rfl,Z⟩)
abbrev gY:TypeId:=194
def fB(b:fO):List Value:=[.int .i64 b.cap,.int .i64 b.cH,.int .i64 b.tokens,.int .i64 b.tick,.int .i64 b.since]
structure fO.Ok(b:fO):Prop where
 c0:0≤b.cap
 c1:b.cap≤16
 r0:1≤b.cH
 r1:b.cH≤1099511627776
 t0:0≤b.tokens
 t1:b.tokens≤b.cap
 k0:0≤b.tick
 k1:b.tick≤1099511627776
 s0:0≤b.since
 s1:b.since≤b.tick
theorem fO.Ok.at(b:fO)(h:b.Ok)(now:Int):(b.at now).Ok:=by
 have:=h.k0
 have:=h.k1
 have:=h.s1
 exact⟨h.c0,h.c1,h.r0,h.r1,h.t0,h.t1,by show 0≤min (max now b.tick) _;omega,by show min (max now b.tick) _≤_;omega,h.s0,by show b.since≤min (max now b.tick) _;omega⟩
theorem yJ:∀(k:Nat) {b:fO},b.Ok→(jL k b).Ok
 | 0,_,h=>h
 | k+1,b,h=>by
  rw[jL]
  split
  ·rename_i hc
   have:=h.t0
   have:=h.s0
   have:=h.r0
   exact yJ k ⟨h.c0,h.c1,h.r0,h.r1,by show 0≤b.tokens+1;omega,by show b.tokens+1≤b.cap;omega,h.k0,h.k1,by show 0≤b.since+b.cH;omega,hc.2⟩
  ·exact h
theorem fO.Ok.full{b:fO}(h:b.Ok):b.full.Ok:=by
 unfold fO.full
 split
 ·exact⟨h.c0,h.c1,h.r0,h.r1,h.t0,h.t1,h.k0,h.k1,h.k0,Z5 _⟩
 ·exact h
theorem fO.Ok.jA{b:fO}(h:b.Ok)(now:Int):(b.jA now).Ok:=(yJ 17 (fO.Ok.at b h now)).full
theorem fO.Ok.take{b:fO}(h:b.Ok)(now:Int):(b.take now).1.Ok:=by
 have k:=h.jA now
 unfold fO.take
 split
 ·exact k
 ·rename_i hn
  have:=k.t0
  have:=k.t1
  exact⟨k.c0,k.c1,k.r0,k.r1,by show 0≤(b.jA now).tokens-1;omega,by show(b.jA now).tokens-1≤(b.jA now).cap;omega,k.k0,k.k1,k.s0,k.s1⟩
theorem Ey{k:Nat}{b:fO}(h:¬(b.tokens<b.cap∧b.since+b.cH≤b.tick)):jL k b=b:=by
 cases k with
 | zero=>rfl
 | succ k=>rw[jL,if_neg h]
section
variable {p:Nat}
theorem Cz{b:fO}(ok:b.Ok)(now:Int):aH Tryz.prog 302 [.pointer (some ⟨p,0,none⟩),.int .i64 now] Fr w [pt p (fB b) gY] (fun v L=>v=.tuple #[]∧L=[pt p (fB (b.jA now)) gY]):=by
 have ok0:=fO.Ok.at b ok now
 refine TF 73 Tryz.func302 Z yn ah Z Z ?_
 refine CS (CG (VG (VO.ld 0 Z Z Z Z ?_)))
 refine VG (VO.st 0 (cs':=fB (b.at now)) Z Z Z Z (by show 3<5;omega) (by show [_,_,_,_,_]=fB _;unfold fB fO.at;congr 4;show Value.int _ _=Value.int _ _;congr 1;dsimp only;repeat' split;all_goals omega) Z (VG (VN ?_)))
 unfold fO.jA
 generalize hb0:b.at now=b0 at ok0
 refine CS (VC.cq (σ:=fO) (fun _=>[(0,pV p)]) (fun x=>[pt p (fB x) gY]) (fun x=>x.Ok∧x=jL 17 b0) ?_ ?_)
 ·refine VC.block ?_
  refine VC.loop (σ:=Nat×fO) (fun x=>[(0,pV p)]) (fun x=>[pt p (fB x.2) gY]) (fun x=>x.2.Ok∧jL x.1 x.2=jL 17 b0∧(x.2.cap-x.2.tokens).toNat≤x.1) (fun x=>x.1) (17,b0)
   ⟨ok0,rfl,by have:=ok0.c1;have:=ok0.t0;dsimp only;omega⟩ ba ER ?_
  rintro⟨k,x⟩ ⟨okx,hk,hn⟩
  dsimp only at okx hk hn ⊢
  have:=okx.c0
  have:=okx.c1
  have:=okx.r0
  have:=okx.r1
  have:=okx.t0
  have:=okx.t1
  have:=okx.k0
  have:=okx.k1
  have:=okx.s0
  have:=okx.s1
  have fin:¬(x.tokens<x.cap∧x.since+x.cH≤x.tick)→x=jL 17 b0:=fun h=>by rw[←hk,Ey h]
  refine aq ?_
  refine CD (ts 0 25 .nil) yn yr ?_
  refine lW ?_
  by_cases h1:x.tokens<x.cap
  rotate_left
  ·refine AG (AY 23 false Z (DF h1) ?_)
   refine lW ?_
   refine VC.jt Z (CX ?_)
   exact⟨x,⟨okx,fin fun h=>h1 h.1⟩,ba,ER⟩
  refine AG (AY 23 true Z (DT h1) ?_)
  refine lW ?_
  refine H8 ?_
  refine lW ?_
  refine CP (p:=x.since+x.cH≤x.tick) Z (fun h2=>CK ?_) (fun h2=>CX ?_)
  rotate_left
  ·exact⟨x,⟨okx,fin fun h=>h2 h.2⟩,ba,ER⟩
  obtain⟨j,rfl⟩:∃j,k=j+1:=⟨k-1,by omega⟩
  rw[jL,if_pos ⟨h1,h2⟩] at hk
  refine OW ?_
  refine aq ?_
  refine VG (VO.st 0 (cs':=fB { x with tokens:=x.tokens+1 }) Z Z Z Z (by show 2<5;omega) Z Z ?_)
  refine aq ?_
  refine CD (ts 0 11 (.only 11 .nil)) yn yr ?_
  refine eW ?_
  refine AG (AP Z Z Z tZ tZ ?_)
  refine eW ?_
  refine AG (VA.st 0 (cs':=fB { x with tokens:=x.tokens+1,since:=x.since+x.cH }) Z Z Z Z Z (by show 4<5;omega) Z Z yu ?_)
  refine jo ?_
  exact⟨(j,{ x with tokens:=x.tokens+1,since:=x.since+x.cH }),⟨⟨okx.c0,okx.c1,okx.r0,okx.r1,by dsimp only;omega,by dsimp only;omega,okx.k0,okx.k1,by dsimp only;omega,h2⟩,hk,by dsimp only;omega⟩,by dsimp only;omega,ba,ER⟩
 rintro x ⟨okx,rfl⟩
 generalize jL 17 b0=x at okx
 unfold fO.full
 refine aq ?_
 refine CD (ts 0 9 .nil) yn yr ?_
 refine eW ?_
 refine CE Z (fun h3=>?_) (fun h3=>CK ?_)
 ·rw[if_pos h3]
  refine an ?_
  refine VG (VO.st 0 (cs':=fB { x with since:=x.tick }) Z Z Z Z (by show 4<5;omega) Z Z ?_)
  refine aq ?_
  exact Py
 ·rw[if_neg h3]
  exact Py
theorem Ez{b:fO}(ok:b.Ok)(h:eS Fr w p (fB b)):aH Tryz.prog 301 [.pointer (some ⟨p,0,none⟩)] Fr w [] (fun v L=>v=.bool false∧L=[]):=by
 have:=ok.r0
 refine TF 12 Tryz.func301 Z yn ah Z Z ?_
 refine aJ ?_
 refine RW ?_
 refine zn ?_
 exact CR (ay.bool (b:=false) 2 Z Z (beq_eq_false_iff_ne.2 yd) ER ⟨rfl,Z⟩)
theorem EA{b:fO}(ok:b.Ok)(now:Int):aH Tryz.prog 242 [.pointer (some ⟨p,0,none⟩),.int .i64 now] Fr w [pt p (fB b) gY] (fun v L=>v=.bool (b.take now).2∧L=[pt p (fB (b.take now).1) gY]):=by
 have ok1:=ok.jA now
 have:=ok1.t0
 have:=ok1.t1
 have:=ok1.c1
 have left:∀(Fr:Nat→Prop) (w:World),aH Tryz.prog 282 [.pointer (some ⟨p,0,none⟩),.int .i64 now] Fr w [pt p (fB b) gY] (fun v L=>v=.int .i64 (b.jA now).tokens∧L=[pt p (fB (b.jA now)) gY]):=by
  intro Fr w
  refine TF 14 Tryz.func282 Z yn ah Z Z ?_
  refine aq ?_
  refine VG (VV (fun Fr w hF hw hS=>Ez Fr w ok (hS.aP 0 Z)) Z ?_)
  refine Ff ?_
  refine VG (VK (Lc:=[pt p (fB b) gY]) (fun Fr w hF hw _=>Cz Fr w ok now) Z Z ?_)
  rintro _ _ ⟨rfl,rfl⟩
  refine Uv ?_
  refine aq ?_
  exact PB
 unfold fO.take
 refine TF 16 Tryz.func242 Z yn ah Z Z ?_
 refine aq ?_
 refine VG (VK (Lc:=[pt p (fB b) gY]) (fun Fr w hF hw _=>left Fr w) Z Z ?_)
 rintro _ _ ⟨rfl,rfl⟩
 refine aq ?_
 refine CE Z (fun h1=>?_) (fun h1=>CK ?_)
 ·rw[if_pos h1]
  refine aq ?_
  exact PB
 rw[if_neg h1]
 refine Uv ?_
 refine H7 ?_
 refine aq ?_
 refine VG (VO.st 0 (cs':=fB { b.jA now with tokens:=(b.jA now).tokens-1 }) Z Z Z Z (by show 2<5;omega) Z Z ?_)
 refine aq ?_
 exact PB
theorem S_(t m:Int):0≤GX t m∧GX t m≤64:=by
 unfold GX
 split
 ·omega
 split
 ·omega
 ·have:(0:Int)≤((2 ^ (t-1).toNat:Nat):Int):=Int.natCast_nonneg _
  omega
theorem Jv(t m:Int):aH Tryz.prog 243 [.int .i64 t,.int .i64 m] Fr w [] (fun v L=>v=.int .i64 (GX t m)∧L=[]):=by
 unfold GX
 refine TF 18 Tryz.func243 Z yn ah Z Z ?_
 refine aq ?_
 refine CP (p:=t<1) Z (fun h1=>?_) (fun h1=>CK ?_)
 ·rw[if_pos h1]
  refine aq ?_
  exact PB
 rw[if_neg h1]
 refine aq ?_
 refine CP (p:=7<t) Z (fun h2=>?_) (fun h2=>CK ?_)
 ·rw[if_pos h2]
  refine aq ?_
  exact CR (ay.int 4 Z Z (by repeat' split;all_goals omega) ER ⟨rfl,Z⟩)
 rw[if_neg h2]
 refine aq ?_
 refine H7 ?_
 obtain⟨n,hn⟩:∃n:Nat,t-1=n:=⟨(t-1).toNat,by omega⟩
 have hp:2 ^ n≤64:=by
  have:2 ^ n≤2 ^ 6:=Nat.pow_le_pow_right yp yd
  exact this
 rw[hn,ZU]
 refine VG (VI (vM (a:=1) (n:=n) ((2 ^ n:Nat):Int) Z Z (by show n≤64;omega) (by rw[Nat.one_mul];generalize 2 ^ n=m at hp;exact i64_in _ yd yd)) ?_)
 generalize 2 ^ n=m at hp
 refine aq ?_
 exact CR (ay.int 4 Z Z (by repeat' split;all_goals omega) ER ⟨rfl,Z⟩)
end
end Cl
namespace Cl
open Go Vg T Api Ch
attribute [local irreducible] VO VC VA
def qU(s:ByteArray):List Value:=[.string s]
theorem kc(s:ByteArray):(qU s).length=1:=rfl
theorem N9(s:ByteArray):(qU s).all Value.oneCell'=true:=rfl
theorem CA{a:Option Addr}{cap:Nat}{l:List bI}(h:aK ax 2 Fr w a l)(hl:l.length≤1000000):aH Tryz.prog 260 [.slice a l.length cap] Fr w [] (fun v L=>∃a' cap',v=.slice a' l.length cap'∧L=[aI aG 2 a' l.length cap' (flat ax l)]):=by
 refine TF 8 Tryz.func260 Z yn ah Z Z ?_
 cases a with
 | none=>
  obtain rfl:l=[]:=by
   cases l with
   | nil=>rfl
   | cons x l=>obtain⟨b,o,h1,_⟩:=h.at_ yf;cases h1
  refine Kt ?_
  exact TX
 | some a=>
  refine xu ?_
  refine CS (CG (VG (VO.buildSlice (n:=0) (pv:=[]) [] Z Z Z Z yp Z fun b=>?_)))
  refine U8 ?_
  refine VG (VO.append (m:=l.length) (news:=flat ax l) 0 Z Z Z Z Z Z Z (aK.row aF h) (gU kB _) UM yd fun a' c' _=>?_)
  rw[ZQ,List.nil_append]
  refine an ?_
  exact TY
theorem AD{a:Option Addr}{cap:Nat}{l:List bI}{i:Nat}(hi:i<l.length)(hl:l.length≤1000000):aH Tryz.prog 245 [.slice a l.length cap,.int .i64 (i:Int),.int .i64 ((i:Int)+1)] Fr w [aI aG 2 a l.length cap (flat ax l)]
  (fun v L=>∃a' cap',v=.slice a' (l.eraseIdx i).length cap'∧L=[aI aG 2 a' (l.eraseIdx i).length cap' (flat ax (l.eraseIdx i))]):=by
 have hel:(l.eraseIdx i).length=l.length-1:=by rw[List.length_eraseIdx,if_pos hi]
 refine TF 33 Tryz.func245 Z yn ah Z Z ?_
 refine Du ?_
 refine VC.e_ 0 Z (aW.sl _ _ _ _ _ _) ?_
 rintro(_ | ⟨sb,rest⟩) ⟨hx1,hx2,hx3⟩
 ·obtain⟨_,h0,_⟩:=hx3
  omega
 obtain⟨rfl,hx4⟩:=hx3
 have hcl:(flat ax l++rest).length=cap*2:=by simpa using hx4
 have hfl:=bp aF l
 have hcap:l.length≤cap:=by
  rw[ZM,hfl] at hcl
  exact Nat.le_of_mul_le_mul_right yd (by decide:0<2)
 obtain⟨z,hz,hwr⟩:=Jt aF hi rest
 have hdl:(l.drop (i+1)).length=l.length-(i+1):=List.length_drop
 have hdf:(flat ax (l.drop (i+1))).length=(l.length-(i+1))*2:=by rw[bp aF,hdl]
 dsimp only
 refine aq ?_
 refine Yr ?_
 refine aq ?_
 refine CE Z (fun h=>absurd h yd) (fun h=>CK ?_)
 refine aq ?_
 refine Vx ?_
 refine jo ?_
 refine AG (AI Z (qk i Z Z Z Z Z Z yd) ?_)
 refine jo ?_
 refine AG (AI Z (vn (i+1) Z Z Z Z Z Z yd yd) ?_)
 refine AG (AO (a8.vN (n:=i) (m:=l.length-(i+1)) (news:=flat ax (l.drop (i+1))) 0 rfl rfl rfl rfl rfl rfl rfl ?_ (gU kB _) yd ?_) rfl (fun v L' g=>by obtain⟨rfl,rfl⟩:=g;exact Dy) ?_)
 ·by_cases hm:l.length=i+1
  ·have e:l.drop (i+1)=[]:=List.eq_nil_of_length_eq_zero yd
   rw[e,show l.length-(i+1)=0 from by omega]
   exact dt.nil
  ·have hne:¬cap=i+1:=by omega
   have hfa:p5 (some ⟨sb,0,none⟩) cap (i+1) 2=some ⟨sb,0+(i+1)*2,none⟩:=by unfold p5;simp[hne,Addr.add_mid]
   show dt _ _ (.slice (p5 (some ⟨sb,0,none⟩) cap (i+1) 2) _ _) _ _ _
   rw[hfa]
   refine dt.pt 0 Z ?_ hdf
   show((flat ax l++rest).drop (0+(i+1)*2)).take ((l.length-(i+1))*2)=_
   rw[ZQ,pk aF _ _ _ yd,List.take_left' hdf]
 ·show i*2+(flat ax (l.drop (i+1))).length≤(flat ax l++rest).length
  rw[hdf,ZM,hfl,←Nat.add_mul]
  exact Nat.le_trans (Nat.mul_le_mul_right _ yd) (Nat.le_add_right _ _)
 rintro _ _ ⟨rfl,rfl⟩
 rw[show i+(l.length-(i+1))=l.length-1 from by omega]
 show VA _ _ _ _ _ _ [pt sb (ki (flat ax l++rest) (i*2) (flat ax (l.drop (i+1)))) aG] _
 rw[hwr]
 refine HY ?_
 refine Ys ?_
 rw[show l.length-(l.length-1)=1 from by omega]
 have hzz:(ax (0,0)).length=z.length:=by rw[hz];rfl
 refine VG (VO.wG (L':=[pt sb (flat ax (l.eraseIdx i)++((ax (0,0))++rest)) aG]) ((a8.clear 0 Z Z Z Z Z yp ?_ Z).mono fun v L' g=>⟨g.1,by
  rw[g.2]
  show [pt sb (ki (flat ax (l.eraseIdx i)++(z++rest)) (0+(l.length-1)*2) (ax (0,0))) aG]=_
  rw[FI (by rw[bp aF,hel];omega) hzz]⟩) ?_)
 ·show 0+(l.length-1)*2+1*2≤(flat ax (l.eraseIdx i)++(z++rest)).length
  rw[ZM,ZM,bp aF,hel,hz];omega
 refine aq ?_
 refine CR (ay.tmp 6 Z Z (L':=[aI aG 2 (some ⟨sb,0,none⟩) (l.length-1) cap (flat ax (l.eraseIdx i))]) (ae.sl (by rw[bp aF,hel]) yd ?_ ae.refl).ar Xx)
 rw[ZM,ZM,bp aF,hel,hzz,hz]
 rw[ZM,hfl] at hcl
 have:(l.length-1)*2+2=l.length*2:=by rw[←Nat.succ_mul];congr 1;omega
 omega
theorem AE{a:Option Addr}{cap:Nat}{l:List ByteArray}{i:Nat}(hi:i<l.length)(hl:l.length≤1000000):aH Tryz.prog 182 [.slice a l.length cap,.int .i64 (i:Int),.int .i64 ((i:Int)+1)] Fr w [aI 9 1 a l.length cap (flat qU l)]
  (fun v L=>∃a' cap',v=.slice a' (l.eraseIdx i).length cap'∧L=[aI 9 1 a' (l.eraseIdx i).length cap' (flat qU (l.eraseIdx i))]):=by
 have hel:(l.eraseIdx i).length=l.length-1:=by rw[List.length_eraseIdx,if_pos hi]
 refine TF 33 Tryz.func182 Z yn ah Z Z ?_
 refine Du ?_
 refine VC.e_ 0 Z (aW.sl _ _ _ _ _ _) ?_
 rintro(_ | ⟨sb,rest⟩) ⟨hx1,hx2,hx3⟩
 ·obtain⟨_,h0,_⟩:=hx3
  omega
 obtain⟨rfl,hx4⟩:=hx3
 have hcl:(flat qU l++rest).length=cap*1:=by simpa using hx4
 have hfl:=bp kc l
 have hcap:l.length≤cap:=by
  rw[ZM,hfl] at hcl
  exact Nat.le_of_mul_le_mul_right yd (by decide:0<1)
 obtain⟨z,hz,hwr⟩:=Jt kc hi rest
 have hdl:(l.drop (i+1)).length=l.length-(i+1):=List.length_drop
 have hdf:(flat qU (l.drop (i+1))).length=(l.length-(i+1))*1:=by rw[bp kc,hdl]
 dsimp only
 refine aq ?_
 refine Yr ?_
 refine aq ?_
 refine CE Z (fun h=>absurd h yd) (fun h=>CK ?_)
 refine aq ?_
 refine Vx ?_
 refine jo ?_
 refine AG (AI Z (qk i Z Z Z Z Z Z yd) ?_)
 refine jo ?_
 refine AG (AI Z (vn (i+1) Z Z Z Z Z Z yd yd) ?_)
 refine AG (AO (a8.vN (n:=i) (m:=l.length-(i+1)) (news:=flat qU (l.drop (i+1))) 0 rfl rfl rfl rfl rfl rfl rfl ?_ (gU N9 _) yd ?_) rfl (fun v L' g=>by obtain⟨rfl,rfl⟩:=g;exact Dy) ?_)
 ·by_cases hm:l.length=i+1
  ·have e:l.drop (i+1)=[]:=List.eq_nil_of_length_eq_zero yd
   rw[e,show l.length-(i+1)=0 from by omega]
   exact dt.nil
  ·have hne:¬cap=i+1:=by omega
   have hfa:p5 (some ⟨sb,0,none⟩) cap (i+1) 1=some ⟨sb,0+(i+1)*1,none⟩:=by unfold p5;simp[hne,Addr.add_mid]
   show dt _ _ (.slice (p5 (some ⟨sb,0,none⟩) cap (i+1) 1) _ _) _ _ _
   rw[hfa]
   refine dt.pt 0 Z ?_ hdf
   show((flat qU l++rest).drop (0+(i+1)*1)).take ((l.length-(i+1))*1)=_
   rw[ZQ,pk kc _ _ _ yd,List.take_left' hdf]
 ·show i*1+(flat qU (l.drop (i+1))).length≤(flat qU l++rest).length
  rw[hdf,ZM,hfl,←Nat.add_mul]
  exact Nat.le_trans (Nat.mul_le_mul_right _ yd) (Nat.le_add_right _ _)
 rintro _ _ ⟨rfl,rfl⟩
 rw[show i+(l.length-(i+1))=l.length-1 from by omega]
 show VA _ _ _ _ _ _ [pt sb (ki (flat qU l++rest) (i*1) (flat qU (l.drop (i+1)))) 9] _
 rw[hwr]
 refine HY ?_
 refine Ys ?_
 rw[show l.length-(l.length-1)=1 from by omega]
 have hzz:(qU ⟨#[]⟩).length=z.length:=by rw[hz];rfl
 refine VG (VO.wG (L':=[pt sb (flat qU (l.eraseIdx i)++((qU ⟨#[]⟩)++rest)) 9]) ((a8.clear 0 Z Z Z Z Z yp ?_ Z).mono fun v L' g=>⟨g.1,by
  rw[g.2]
  show [pt sb (ki (flat qU (l.eraseIdx i)++(z++rest)) (0+(l.length-1)*1) (qU ⟨#[]⟩)) 9]=_
  rw[FI (by rw[bp kc,hel];omega) hzz]⟩) ?_)
 ·show 0+(l.length-1)*1+1*1≤(flat qU (l.eraseIdx i)++(z++rest)).length
  rw[ZM,ZM,bp kc,hel,hz];omega
 refine aq ?_
 refine CR (ay.tmp 6 Z Z (L':=[aI 9 1 (some ⟨sb,0,none⟩) (l.length-1) cap (flat qU (l.eraseIdx i))]) (ae.sl (by rw[bp kc,hel]) yd ?_ ae.refl).ar Xx)
 rw[ZM,ZM,bp kc,hel,hzz,hz]
 rw[ZM,hfl] at hcl
 have:(l.length-1)*1+1=l.length*1:=by rw[←Nat.succ_mul];congr 1;omega
 omega
end Cl
namespace Cl
open Go Vg T Api
attribute [local irreducible] VO VC VA
abbrev Ta:TypeId:=5
def wZ(b:UInt8):List Value:=[.int .u8 (b.toNat:Int)]
theorem AF(b:UInt8):(wZ b).length=1:=rfl
theorem N_(l:Bs):flat wZ l=l.map fun c=>Value.int .u8 (c.toNat:Int):=by
 induction l with
 | nil=>rfl
 | cons b l ih=>rw[bO,ih];rfl
theorem qK(l:Bs):(flat wZ l).length=l.length:=by rw[bp AF];omega
theorem wrap_u8(n:Nat):IntKind.u8.wrap (n:Int)=((UInt8.ofNat n).toNat:Int):=by
 simp[IntKind.wrap,IntKind.bits,IntKind.signed,UInt8.toNat_ofNat']
theorem rS{n:Nat}(h:n<18446744073709551616):IntKind.u64.wrap (n:Int)=(n:Int):=wrap_u64 yd yd
theorem Jw{l:Bs}{rest:List Value}{i:Nat}{v:UInt8}(h:l[i]?=some v):(flat wZ l++rest)[0+i*1]?=some (.int .u8 (v.toNat:Int)):=by
 have:=fH AF (j:=0) h rfl rest
 rw[ZQ];exact this
theorem Jx{l:Bs}{rest:List Value}{i:Nat}{v:UInt8}(h:i<l.length):(flat wZ l++rest).set (0+i*1) (.int .u8 (v.toNat:Int))=flat wZ (l.set i v)++rest:=by
 obtain⟨u,hu⟩:∃u,l[i]?=some u:=⟨_,GE h⟩
 have:=gF AF (a':=v) (j:=0) hu yp rfl rest
 rw[ZQ];exact this
structure RO(cs ds:Bs)(i:Nat):Prop where
 len:ds.length=cs.length
 at_:∀k,k<cs.length→ds[k]?=if k<i∨cs.length-i≤k then cs[cs.length-1-k]? else cs[k]?
theorem RO.done{cs ds:Bs}{i:Nat}(h:RO cs ds i)(hi:cs.length≤2*i+1):ds=cs.reverse:=by
 refine List.ext_getElem? fun k=>?_
 by_cases hk:k<cs.length
 ·rw[h.at_ k hk,List.getElem?_reverse hk]
  split
  ·rfl
  ·congr 1;omega
 ·rw[List.getElem?_eq_none (by rw[h.len];omega),List.getElem?_eq_none (by rw[List.length_reverse];omega)]
theorem RO.next{cs ds:Bs}{i:Nat}{x y:UInt8}(h:RO cs ds i)(hi:2*i+1<cs.length)(hx:ds[i]?=some x)(hy:ds[cs.length-1-i]?=some y):RO cs ((ds.set i y).set (cs.length-1-i) x) (i+1):=by
 have hl:=h.len
 refine⟨by simp[hl],fun k hk=>?_⟩
 have e1:cs[i]?=some x:=by rw[←hx,h.at_ i yd,if_neg yd]
 have e2:cs[cs.length-1-i]?=some y:=by rw[←hy,h.at_ _ yd,if_neg yd]
 by_cases h1:k=cs.length-1-i
 ·subst h1
  rw[Z9 ye,if_pos yd,show cs.length-1-(cs.length-1-i)=i from by omega,e1]
 rw[List.getElem?_set_ne yd]
 by_cases h2:k=i
 ·subst h2
  rw[Z9 yd,if_pos yd,e2]
 rw[List.getElem?_set_ne yd,h.at_ k hk]
 by_cases h3:k<i∨cs.length-i≤k
 ·rw[if_pos h3,if_pos yd]
 ·rw[if_neg h3,if_neg yd]
theorem AH(b n cap:Nat)(cs:Bs)(rest:List Value)(hn:cs.length=n)(h0:1≤n)(h1:n≤1000):
  aH Tryz.prog 272 [.slice (some ⟨b,0,none⟩) n cap] Fr w [pt b (flat wZ cs++rest) Ta] (fun v L=>v=.tuple #[]∧L=[pt b (flat wZ cs.reverse++rest) Ta]):=by
 refine TF 28 Tryz.func272 Z yn ah Z Z ?_
 refine aq ?_
 refine H7 ?_
 refine aq ?_
 refine VC.loop (σ:=Nat×Bs) (fun s=>[(0,.slice (some ⟨b,0,none⟩) n cap),(2,.int .i64 (s.1:Int)),(3,.int .i64 ((n:Int)-1-s.1))]) (fun s=>[pt b (flat wZ s.2++rest) Ta]) (fun s=>RO cs s.2 s.1∧s.1≤n) (fun s=>n-s.1) (0,cs)
  (by refine⟨⟨rfl,fun k hk=>?_⟩,ZO _⟩;rw[if_neg yd]) (SC rfl (SC rfl (Sub.int rfl tZ (SN _)))) ER ?_
 rintro⟨i,ds⟩ ⟨hR,hi⟩
 have hl:ds.length=n:=by rw[hR.len,hn]
 dsimp only
 refine aq ?_
 refine CP (p:=(i:Int)<(n:Int)-1-i) Z (fun h2=>CK ?_) (fun h2=>CX ?_)
 rotate_left
 ·have hd:=hR.done yd
  subst hd
  refine aq ?_
  exact Py
 obtain⟨x,hx⟩:∃x,ds[i]?=some x:=⟨_,GE yd⟩
 obtain⟨y,hy⟩:∃y,ds[n-1-i]?=some y:=⟨_,GE yd⟩
 have hj:(n:Int)-1-i=((n-1-i:Nat):Int):=by omega
 have hcap:n≤n:=NR _
 rw[hj]
 refine aq ?_
 refine CD (ts 0 13 (.only 13 (.take 14 (.only 15 .nil)))) yn yr ?_
 refine jo ?_
 refine AG (AI Z (a_ (n-1-i) Z Z Z Z Z Z yd) ?_)
 refine AG (VA.ld 0 Z Z Z Z (Jw (i:=n-1-i) hy) ?_)
 refine jo ?_
 refine AG (AI Z (a_ i Z Z Z Z Z Z yd) ?_)
 refine AG (VA.ld 0 Z Z Z Z (Jw (i:=i) hx) ?_)
 refine jo ?_
 refine AG (AI Z (a_ i Z Z Z Z Z Z yd) ?_)
 refine AG (VA.st 0 (cs':=flat wZ (ds.set i y)++rest) Z Z Z Z Z (by show 0+i*1<_;rw[ZM,qK];omega) (Jx (i:=i) yd) Z yu ?_)
 refine jo ?_
 refine AG (AI Z (a_ (n-1-i) Z Z Z Z Z Z yd) ?_)
 refine AG (VA.st 0 (cs':=flat wZ ((ds.set i y).set (n-1-i) x)++rest) Z Z Z Z Z (by show 0+(n-1-i)*1<_;rw[ZM,qK,Z4];omega) (Jx (i:=n-1-i) (by rw[Z4];omega)) Z yu ?_)
 refine jo ?_
 refine Rz ?_
 refine H7 ?_
 refine aq ?_
 refine⟨(i+1,(ds.set i y).set (n-1-i) x),⟨?_,by omega⟩,by dsimp only;omega,SC Z (SC Z (Sub.int Z tZ (SN _))),ER⟩
 subst hn
 exact hR.next yd hx hy
end Cl
namespace Cl
open Go Vg T Api
attribute [local irreducible] VO VC VA
theorem ofNat_mod(n:Nat):UInt8.ofNat (n % 256)=UInt8.ofNat n:=by apply UInt8.toNat_inj.1;simp[UInt8.toNat_ofNat']
theorem Jy:∀k,H2 k 0=[]
 | 0=>rfl
 | k+1=>by rw[H2,if_pos rfl]
theorem AJ(l:Bs)(k:Nat):(bT l).extract k (bT l).size=bT (l.drop k):=by
 rw[dk];exact ByteArray.ext (by simp[bT,List.take_of_length_le])
theorem FJ(l:Bs)(k:Nat):(bT l).extract 0 k=bT (l.take k):=ByteArray.ext (by simp[bT])
theorem Jz(a b:ByteArray):(a.toList == b.toList)=decide (a=b):=by
 by_cases h:a=b
 ·subst h;simp
 ·have:a.toList≠b.toList:=fun e=>h (by
   rw[ByteArray.toList_eq,ByteArray.toList_eq] at e
   exact ByteArray.ext (Array.toList_inj.1 e))
  rw[DF h];simpa using this
theorem p9(a b:Bs):((bT a).toList == (bT b).toList)=decide (a=b):=by
 rw[Jz]
 by_cases h:a=b
 ·rw[DT h,DT (congrArg bT h)]
 ·rw[DF h,DF fun k=>h (Qu k)]
theorem JA{r:Bs}{j:Nat}{b:UInt8}(h:r[j]?=some b):Be (r.take (j+1))=Be (r.take j)*256+b.toNat:=by
 rw[ZZ,h,←No];rfl
theorem tO{r:Bs}{j:Nat}(h:j≤8):Be (r.take j)<256 ^ j:=by
 have:=Im (r.take j)
 exact Nat.lt_of_lt_of_le this (Nat.pow_le_pow_right yp TC)
theorem WB{j:Nat}(h:j≤7):256 ^ j≤72057594037927936:=by
 have:256 ^ j≤256 ^ 7:=Nat.pow_le_pow_right yp h
 exact this
theorem WC{j:Nat}(h:j≤8):256 ^ j≤18446744073709551616:=by
 have:256 ^ j≤256 ^ 8:=Nat.pow_le_pow_right yp h
 exact this
theorem vO(n:Nat)(hn:n<18446744073709551616):aH Tryz.prog 224 [.int .u64 n] Fr w [] (fun v L=>v=.string (bT (ss n))∧L=[]):=by
 refine TF 30 Tryz.func224 Z yn ah Z Z ?_
 refine aq ?_
 refine CP (p:=(n:Int)≤247) Z (fun h=>?_) (fun h=>CK ?_)
 ·refine aq ?_
  refine VG (VI (dN ((UInt8.ofNat n).toNat:Int) Z Z Z Z Z (wrap_u8 n)) ?_)
  refine VG (VO.buildSlice (pv:=[(0,.int .u8 ((UInt8.ofNat n).toNat:Int))]) (wZ (UInt8.ofNat n)) Z Z Z Z yp Z fun b=>?_)
  refine VG (VO.wG (a8.str (bs:=[UInt8.ofNat n]) 0 Z Z Z Z Z Z Z Z Z Z) ?_)
  refine aq ?_
  exact CR (ay.tmp 2 Z Z ae.nil.ar ⟨by rw[ss,if_pos yd];rfl,Z⟩)
 refine aq ?_
 refine VC.loop (σ:=Bs×Nat×Option Addr×Nat) (fun s=>[(0,.int .u64 (s.2.1:Int)),(3,.slice s.2.2.1 s.1.length s.2.2.2)]) (fun s=>[aI Ta 1 s.2.2.1 s.1.length s.2.2.2 (flat wZ s.1)]) (fun s=>H2 8 n=s.1++H2 (8-s.1.length) s.2.1∧s.1.length≤8∧s.2.1<256 ^ (8-s.1.length)) (fun s=>8-s.1.length) ([],n,none,0)
  ⟨rfl,ZO _,hn⟩ ba (ae.bZ ae.nil).ar ?_
 rintro⟨done,cur,a,c⟩ ⟨hJ,hl,hc⟩
 dsimp only at hJ hl hc ⊢
 refine aq ?_
 refine CP (p:=0<(cur:Int)) Z (fun h2=>CK ?_) (fun h2=>CX ?_)
 ·obtain⟨k,hk⟩:∃k,8-done.length=k+1:=⟨8-done.length-1,by
   by_cases h8:done.length=8
   ·rw[h8] at hc;simp at hc;omega
   ·omega⟩
  have hu:H2 (k+1) cur=UInt8.ofNat cur::H2 k (cur / 256):=by rw[H2,if_neg yd,ofNat_mod]
  rw[hk] at hc
  rw[hk,hu] at hJ
  refine aq ?_
  refine VG (VI (dN ((UInt8.ofNat cur).toNat:Int) Z Z Z Z Z (wrap_u8 cur)) ?_)
  refine VG (VO.buildSlice (pv:=[(0,.int .u8 ((UInt8.ofNat cur).toNat:Int))]) (wZ (UInt8.ofNat cur)) Z Z Z Z yp Z fun b=>?_)
  refine VG (VO.append (m:=1) (news:=wZ (UInt8.ofNat cur)) 1 Z Z Z Z Z Z Z (dt.pt 0 Z Z Z) Z Xq yd fun a2 c2 hc2=>?_)
  refine aq ?_
  refine VG (VI (Ew (n:=8) Z Z yp) ?_)
  refine aq ?_
  have hL:(done ++ [UInt8.ofNat cur]).length=done.length+1:=by simp
  refine⟨(done ++ [UInt8.ofNat cur],cur / 2 ^ 8,a2,c2),⟨?_,by dsimp only;omega,?_⟩,by dsimp only;omega,SC Z (SC (by dsimp only;rw[hL];rfl) (SN _)),?_⟩
  ·dsimp only
   rw[hJ,hL,show 8-(done.length+1)=k from by omega,ZX];rfl
  ·dsimp only
   rw[hL,show 8-(done.length+1)=k from by omega]
   rw[Nat.pow_succ] at hc
   exact Nat.div_lt_of_lt_mul (by rw[Nat.mul_comm];exact hc)
  ·dsimp only
   rw[hL,bf]
   exact(IP 0 Z ae.nil).ar
 obtain rfl:cur=0:=by omega
 rw[Jy,ZN] at hJ
 refine Rz ?_
 refine VG (VI (dN ((UInt8.ofNat (247+done.length)).toNat:Int) Z Z Z Z Z (wrap_u8 (247+done.length))) ?_)
 generalize hz:UInt8.ofNat (247+done.length)=z
 refine VG (VO.buildSlice (pv:=[(0,.int .u8 (z.toNat:Int))]) (wZ z) Z Z Z Z yp Z fun b=>?_)
 refine VG (VO.append (m:=1) (news:=wZ z) 1 Z Z Z Z Z Z Z (dt.pt 0 Z Z Z) Z Xq yd fun a2 c2 hc2=>?_)
 refine aq ?_
 rw[show flat wZ done++wZ z=flat wZ (done ++ [z]) from by rw[bf];rfl]
 refine VO.e_ 0 Z (aW.sl _ _ _ _ _ _) ?_
 rintro(_ | ⟨sb,rest⟩) ⟨hx1,hx2,hx3⟩
 ·obtain⟨_,h0,_⟩:=hx3
  omega
 obtain⟨rfl,hx4⟩:=hx3
 dsimp only
 refine aq ?_
 refine VG (VQ 0 Z (fun Fr w hF hw _=>AH Fr w sb (done.length+1) c2 (done ++ [z]) rest yf yd yd) Z (ψ:=fun v H=>v=.tuple #[]∧H=pt sb (flat wZ (done ++ [z]).reverse++rest) Ta) yy ?_)
 rintro _ _ ⟨rfl,rfl⟩
 refine aq ?_
 refine VG (VO.wG (a8.str (bs:=(done ++ [z]).reverse) 0 Z Z Z Z Z Z Z Z yf (by rw[←N_,List.take_left' (by rw[qK];simp)])) ?_)
 refine aq ?_
 exact CR (ay.tmp 2 Z Z ae.nil.ar ⟨by rw[ss,if_neg yd,hJ,hz,List.reverse_append];rfl,Z⟩)
theorem eQ(n:Int):aH Tryz.prog 154 [.int .i64 n] Fr w [] (fun v L=>v=.string (bT (fT n))∧L=[]):=by
 refine TF 13 Tryz.func154 Z yn ah Z Z ?_
 refine aq ?_
 by_cases h1:n < -1
 ·refine VG (VY 5 true Z (DT h1) ?_)
  refine Ia ?_
  exact CR (ay.tmp 2 Z Z ER ⟨by rw[fT,if_pos (.inl h1)];rfl,Z⟩)
 refine VG (VY 5 false Z (DF h1) ?_)
 refine aJ ?_
 refine CP (p:=1099511627776<n) Z (fun h2=>?_) (fun h2=>CK ?_)
 ·refine aq ?_
  exact CR (ay.tmp 2 Z Z ER ⟨by rw[fT,if_pos (.inr h2)];rfl,Z⟩)
 refine Rz ?_
 refine VG (VI (dN (((n+1).toNat:Nat):Int) Z Z Z Z Z (by rw[wrap_u64 yd yd];omega)) ?_)
 refine VG (VV (fun Fr w hF hw _=>vO Fr w (n+1).toNat yd) Z ?_)
 refine aq ?_
 exact CR (ay.tmp 2 Z Z ER ⟨by rw[fT,if_neg yd],Z⟩)
theorem kl(s:ByteArray)(hs:s.size≤1000000):aH Tryz.prog 226 [.string s] Fr w [] (fun v L=>v=.string (bT (ox (sB s)))∧L=[]):=by
 have hl:(ss s.size).length≤9:=by
  unfold ss
  split
  ·simp
  ·have:=zI 8 s.size;simp;omega
 refine TF 9 Tryz.func226 Z yn ah Z Z ?_
 refine aq ?_
 refine VG (VI (dN (s.size:Int) Z Z Z Z Z (rS yd)) ?_)
 refine VG (VV (fun Fr w hF hw _=>vO Fr w s.size yd) Z ?_)
 refine aq ?_
 refine VG (VI (bq Z Z (by rw[dk];omega)) ?_)
 refine aq ?_
 exact CR (ay.tmp 2 Z Z ER ⟨by rw[ox,gP,O9,uH],Z⟩)
end Cl
namespace Cl
open Go Vg T Api
attribute [local irreducible] VO VC VA
theorem ay.t3{X:Cx}{fn:Func}{R:Value→List HP→Prop}{e:Env}{L:List HP}(t u r:Nat)(h:fn.results=#[.tmp t,.tmp u,.tmp r]){v x y:Value}(hv:Vg.look e t=some v)(hx:Vg.look e u=some x)(hy:Vg.look e r=some y){L':List HP}(he:jq X L L')(hR:R (.tuple #[v,x,y]) L'):ay X fn R e L:=
 ⟨_,L',⟨fun a w ha hw=>by
  have h1:=ha.at_ t _ hv
  have h2:=ha.at_ u _ hx
  have h3:=ha.at_ r _ hy
  simp only[Array.getD_eq_getD_getElem?] at h1 h2 h3
  simp[results,h,h1,h2,h3]⟩,he,hR⟩
def WD:Option (Nat×Bs)→Value
 | some (n,r)=>.tuple #[.int .u64 n,.string (bT r),.bool true]
 | none=>.tuple #[.int .u64 0,.string (bT []),.bool false]
def Y':Option (Int×Bs)→Value
 | some (n,r)=>.tuple #[.int .i64 n,.string (bT r),.bool true]
 | none=>.tuple #[.int .i64 0,.string (bT []),.bool false]
def Za:Option (Bs×Bs)→Value
 | some (n,r)=>.tuple #[.string (bT n),.string (bT r),.bool true]
 | none=>.tuple #[.string (bT []),.string (bT []),.bool false]
theorem jk(s:Bs)(hs:s.length≤1000000):aH Tryz.prog 284 [.string (bT s)] Fr w [] (fun v L=>v=WD (lf s)∧L=[]):=by
 refine TF 48 Tryz.func284 Z yn ah Z Z ?_
 refine aq ?_
 refine CC Z (fun h=>?_) (fun h=>CK ?_)
 ·have h:s=[]:=by rw[show(ByteArray.mk #[])=bT [] from rfl,p9] at h;exact of_decide_eq_true h
  subst h
  refine aq ?_
  exact CR (ay.t3 2 3 4 Z Z Z Z ER ⟨rfl,Z⟩)
 have h:s≠[]:=by rw[show(ByteArray.mk #[])=bT [] from rfl,p9] at h;exact of_decide_eq_false h
 obtain⟨c,r,rfl⟩:∃c r,s=c::r:=by cases s with
  | nil=>exact absurd rfl h
  | cons c r=>exact⟨c,r,rfl⟩
 have hc:c.toNat<256:=c.toNat_lt
 rw[ZW] at hs
 have hsz:(bT (c::r)).size=r.length+1:=by rw[dk];rfl
 refine aq ?_
 refine VG (VI (dZ (b:=c) 0 Z Z Z Z Z Z) ?_)
 refine aq ?_
 refine CP (p:=(c.toNat:Int)≤247) Z (fun h2=>?_) (fun h2=>CK ?_)
 ·refine aq ?_
  refine CD (ts 0 8 .nil) yn yr ?_
  refine jo ?_
  refine AG (AI Z (dZ (b:=c) 0 Z Z Z Z Z Z) ?_)
  refine AG (AI Z (dN (c.toNat:Int) Z Z Z Z Z (rS yd)) ?_)
  refine jo ?_
  refine AG (AI Z (o8 1 Z Z Z Z Z KE) ?_)
  refine jo ?_
  exact CR (ay.t3 2 3 4 Z Z Z Z ER ⟨by rw[lf,if_pos yd,AJ];rfl,Z⟩)
 obtain⟨k,hk⟩:∃k,c.toNat-247=k:=⟨_,rfl⟩
 have hk1:1≤k:=by omega
 have hk8:k≤8:=by omega
 refine aq ?_
 refine VG (VI (dZ (b:=c) 0 Z Z Z Z Z Z) ?_)
 refine VG (VI (dN (c.toNat:Int) Z Z Z Z Z (i64_in _ yd yd)) ?_)
 refine Gd ?_
 refine H7 ?_
 rw[show(1:Int)+c.toNat-247=((k+1:Nat):Int) from by omega]
 refine aq ?_
 have hr:lf (c::r)=if r.length<k then none else if ss (Be (r.take k))=c::r.take k then some (Be (r.take k),r.drop k) else none:=by
  rw[lf,if_neg yd,hk]
 refine CP (p:=((bT (c::r)).size:Int)<((k+1:Nat):Int)) Z (fun h3=>?_) (fun h3=>CK ?_)
 ·rw[hsz] at h3
  refine aq ?_
  exact CR (ay.t3 2 3 4 Z Z Z Z ER ⟨by rw[hr,if_pos yd];rfl,Z⟩)
 rw[hsz] at h3
 rw[if_neg yd] at hr
 refine aq ?_
 refine VC.loop (σ:=Nat) (fun j=>[(0,.string (bT (c::r))),(5,.int .i64 ((k+1:Nat):Int)),(6,.int .i64 ((j+1:Nat):Int)),(2,.int .u64 ((Be (r.take j):Nat):Int))]) (fun _=>[]) (fun j=>j≤k) (fun j=>k-j) 0
  (ZO _) (SC rfl (SC rfl (SC rfl (Sub.int rfl (by rw[List.take_zero];rfl) (SN _))))) ER ?_
 intro j hj
 refine aq ?_
 refine CP (p:=((j+1:Nat):Int)<((k+1:Nat):Int)) Z (fun h4=>CK ?_) (fun h4=>CX ?_)
 ·obtain⟨b,hb⟩:∃b,r[j]?=some b:=⟨_,GE yd⟩
  have h256:b.toNat<256:=b.toNat_lt
  have hlt:=tO (r:=r) (j:=j) yd
  have hp:=WB (j:=j) yd
  have hsh:Be (r.take j)*2 ^ 8<18446744073709551616:=by omega
  refine aq ?_
  refine VG (VI (vM (n:=8) ((Be (r.take j)*2 ^ 8:Nat):Int) Z Z yp (rS hsh)) ?_)
  refine aq ?_
  refine VG (VI (dZ (b:=b) (j+1) Z Z Z Z Z hb) ?_)
  refine VG (VI (dN (b.toNat:Int) Z Z Z Z Z (rS yd)) ?_)
  refine VG (VI (Ex Z Z hsh yd) ?_)
  refine qT ?_
  refine⟨j+1,by omega,by dsimp only;omega,SC Z (SC Z (Sub.int Z yd (Sub.int Z (by rw[JA hb,show(2:Nat) ^ 8=256 from Z,Ju h256]) (SN _)))),ER⟩
 obtain rfl:j=k:=by omega
 have hlt:=tO (r:=r) (j:=j) hk8
 have hp:=WC (j:=j) hk8
 refine aq ?_
 refine CD (ts 0 1 (ts 2 3 (.only 1 (.take 5 .nil)))) yn yr ?_
 refine jo ?_
 refine AG (AI Z (yI (j+1) Z Z Z Z Z KE) ?_)
 refine AG (AR (fun Fr w hF hs hS=>vO Fr w (Be (r.take j)) yd) Z Z yu ?_)
 refine jo ?_
 rw[FJ]
 refine VC.dX Z (fun h5=>?_) (fun h5=>CK ?_)
 ·have h5:¬ss (Be (r.take j))=c::r.take j:=by rw[p9] at h5;exact of_decide_eq_false h5
  refine aq ?_
  exact CR (ay.t3 2 3 4 Z Z Z Z ER ⟨by rw[hr,if_neg h5];rfl,Z⟩)
 have h5:ss (Be (r.take j))=c::r.take j:=by rw[p9] at h5;exact of_decide_eq_true h5
 refine aq ?_
 refine CD (ts 0 7 .nil) yn yr ?_
 refine jo ?_
 refine AG (AI Z (o8 (j+1) Z Z Z Z Z KE) ?_)
 refine jo ?_
 exact CR (ay.t3 2 3 4 Z Z Z Z ER ⟨by rw[hr,if_pos h5,AJ];rfl,Z⟩)
theorem nD(s:Bs)(hs:s.length≤1000000):aH Tryz.prog 246 [.string (bT s)] Fr w [] (fun v L=>v=Y' (aX s)∧L=[]):=by
 refine TF 22 Tryz.func246 Z yn ah Z Z ?_
 refine aq ?_
 cases hr:lf s with
 | none=>
  refine Yt ?_
  refine aJ ?_
  refine VG (VY 14 true Z Z ?_)
  refine Ia ?_
  exact CR (ay.t3 2 3 4 Z Z Z Z ER ⟨by rw[aX,hr];rfl,Z⟩)
 | some x=>
  obtain⟨u,r⟩:=x
  have hu:=Bv hr
  refine Yu ?_
  refine aJ ?_
  refine VG (VY 14 false Z Z ?_)
  refine aJ ?_
  refine CP (p:=(1099511627777:Int)<(u:Int)) Z (fun h2=>?_) (fun h2=>CK ?_)
  ·refine aq ?_
   exact CR (ay.t3 2 3 4 Z Z Z Z ER ⟨by rw[aX,hr];dsimp only;rw[if_pos yd];rfl,Z⟩)
  refine aq ?_
  refine VG (VI (dN (u:Int) Z Z Z Z Z (i64_in _ yd yd)) ?_)
  refine H7 ?_
  refine aq ?_
  exact CR (ay.t3 2 3 4 Z Z Z Z ER ⟨by rw[aX,hr];dsimp only;rw[if_neg yd];rfl,Z⟩)
theorem oU(s:Bs)(hs:s.length≤1000000):aH Tryz.prog 248 [.string (bT s)] Fr w [] (fun v L=>v=Za (l0 s)∧L=[]):=by
 refine TF 27 Tryz.func248 Z yn ah Z Z ?_
 refine aq ?_
 cases hr:lf s with
 | none=>
  refine Yt ?_
  refine aJ ?_
  refine VG (VY 14 true Z Z ?_)
  refine Ia ?_
  exact CR (ay.t3 2 3 4 Z Z Z Z ER ⟨by rw[l0,hr];rfl,Z⟩)
 | some x=>
  obtain⟨u,r⟩:=x
  have hu:=Bv hr
  have hrl:=su hr
  have hsz:(bT r).size=r.length:=dk r
  refine Yu ?_
  refine aJ ?_
  refine VG (VY 14 false Z Z ?_)
  refine aJ ?_
  refine VG (VI (dN ((bT r).size:Int) Z Z Z Z Z (rS yd)) ?_)
  refine aJ ?_
  refine CP (p:=((bT r).size:Int)<(u:Int)) Z (fun h2=>?_) (fun h2=>CK ?_)
  ·refine aq ?_
   exact CR (ay.t3 2 3 4 Z Z Z Z ER ⟨by rw[l0,hr];dsimp only;rw[if_pos yd];rfl,Z⟩)
  refine aq ?_
  refine CD (ts 0 9 .nil) yn yr ?_
  refine jo ?_
  refine AG (AI Z (yI u Z Z Z Z Z yd) ?_)
  refine jo ?_
  refine AG (AI Z (o8 u Z Z Z Z Z yd) ?_)
  refine jo ?_
  exact CR (ay.t3 2 3 4 Z Z Z Z ER ⟨by rw[l0,hr];dsimp only;rw[if_neg yd,AJ,FJ];rfl,Z⟩)
end Cl
namespace Cl
open Go Vg T Api
attribute [local irreducible] VO VC VA
theorem CB(n:Nat):(ss n).length≤9:=by
 unfold ss
 split
 ·simp
 ·have:=zI 8 n;simp;omega
theorem bL(n:Int):(fT n).length≤9:=by
 unfold fT
 split
 ·exact ZO _
 ·exact CB _
theorem kn(s:Bs):(ox s).length≤9+s.length:=by
 have:=CB s.length
 rw[ox,ZM];omega
theorem CF{o:fe}(h:a6 o=0):o.key.size≤16∧o.value.size≤64:=by
 unfold a6 at h
 split at h
 ·exact absurd h yp
 split at h
 ·exact absurd h yp
 rename_i h2
 simp[lH] at h2
 omega
theorem AK{o:fe}(h:a6 o=0):(O_ o).length≤116:=by
 obtain⟨h1,h2⟩:=CF h
 have a:=bL o.kind
 have b:=kn (sB o.key)
 have c:=kn (sB o.value)
 have d:=bL o.version
 rw[uH] at b c
 unfold O_
 simp only[ZM]
 have e:(if wO o.kind=true then ox (sB o.value) else []).length≤73:=by split<;>first | omega | simp
 have f:(if o.kind=4 then fT o.version else []).length≤9:=by split<;>first | omega | simp
 omega
theorem yK(o:fe):aH Tryz.prog 225 [.agg o.cells.toArray] Fr w [] (fun v L=>v=.tuple #[.string (bT (if a6 o=0 then O_ o else [])),.int .i64 (a6 o)]∧L=[]):=by
 refine TF 35 Tryz.func225 Z yn ah Z Z ?_
 refine CS (CG (VG (VB (vs:=o.cells) Z fun b=>VG (VN ?_))))
 refine aq ?_
 refine VG (VL 0 o.cells Z Z Z Z ?_)
 refine VG (VV (fun Fr w hF hw _=>Api.bm Fr w o) Z ?_)
 refine aq ?_
 refine VC.bo Z (fun h=>?_) (fun h=>CK ?_)
 ·refine aq ?_
  exact CR (ay.cV 2 3 Z Z Z ae.nil.ar ⟨by rw[if_neg h];rfl,Z⟩)
 rw[if_pos h,h]
 obtain⟨hk,hv⟩:=CF h
 have l1:=bL o.kind
 have l2:=kn (sB o.key)
 have l3:=kn (sB o.value)
 have l4:=bL o.version
 rw[uH] at l2 l3
 refine aq ?_
 refine CD (ts 0 2 (ts 3 2 (.only 2 (.only 5 (ts 6 2 .nil))))) yn yr ?_
 refine eW ?_
 refine AG (AR (fun Fr w hF hs hS=>eQ Fr w o.kind) Z Z yu ?_)
 refine AG (AR (fun Fr w hF hs hS=>kl Fr w o.key yd) Z Z yu ?_)
 refine R6 ?_
 rw[←gP]
 refine OZ ?_
 refine VG (VV (fun Fr w hF hw _=>k_ Fr w o.kind) Z ?_)
 refine an ?_
 refine VC.cq (σ:=Bs) (fun s=>[(1,pV b),(5,.string (bT s))]) (fun _=>[pt b o.cells 31]) (fun s=>s=fT o.kind++ox (sB o.key)++(if wO o.kind=true then ox (sB o.value) else [])) ?_ ?_
 ·refine CC Z (fun h2=>?_) (fun h2=>CK ?_)
  ·refine an ?_
   refine VG (VV (fun Fr w hF hw _=>kl Fr w o.value yd) Z ?_)
   refine VG (VI (bq Z Z (by rw[dk,dk,ZM];omega)) ?_)
   rw[←gP]
   refine an ?_
   exact⟨_,by rw[show wO o.kind=true from h2,if_pos rfl],SC Z (SC Z (SN _)),ER⟩
  ·exact⟨_,by rw[show wO o.kind=false from h2,if_neg yp,ZN],SC Z (SC Z (SN _)),ER⟩
 rintro s rfl
 have e:(if wO o.kind=true then ox (sB o.value) else []).length≤73:=by split<;>first | omega | simp
 refine an ?_
 refine VC.cq (σ:=Bs) (fun s=>[(1,pV b),(5,.string (bT s))]) (fun _=>[pt b o.cells 31]) (fun s=>s=O_ o) ?_ ?_
 ·refine CE Z (fun h2=>?_) (fun h2=>CK ?_)
  ·refine an ?_
   refine VG (VV (fun Fr w hF hw _=>eQ Fr w o.version) Z ?_)
   refine Uh ?_
   rw[←gP]
   refine an ?_
   exact⟨_,by rw[O_,if_pos h2],SC Z (SC Z (SN _)),ER⟩
  ·exact⟨_,by rw[O_,if_neg h2,ZN],SC Z (SC Z (SN _)),ER⟩
 rintro s rfl
 refine an ?_
 exact CR (ay.cV 2 3 Z Z Z ae.nil.ar ⟨rfl,Z⟩)
end Cl
namespace Cl
open Go Vg T Api
attribute [local irreducible] VO VC VA
theorem JB{s a r:Bs}(h:l0 s=some (a,r)):a.length≤s.length∧r.length≤s.length:=by
 unfold l0 at h
 cases hr:lf s with
 | none=>rw[hr] at h;cases h
 | some x=>
  obtain⟨n,q⟩:=x
  have:=su hr
  rw[hr] at h
  dsimp only at h
  split at h
  ·cases h
  ·simp only[Option.some.injEq,Prod.mk.injEq] at h
   obtain⟨rfl,rfl⟩:=h
   rw[Z1,List.length_drop];omega
def g1(s:Bs):Option (fe×Bs):=(aX s).map fun x=>(⟨x.1,bT [],bT [],0⟩,x.2)
def g2(s:Bs):Option (fe×Bs):=(g1 s).bind fun x=>(l0 x.2).map fun y=>({ x.1 with key:=bT y.1 },y.2)
def g3(s:Bs):Option (fe×Bs):=(g2 s).bind fun x=>if wO x.1.kind=true then (l0 x.2).map fun y=>({ x.1 with value:=bT y.1 },y.2) else some x
def g4(s:Bs):Option (fe×Bs):=(g3 s).bind fun x=>if x.1.kind=4 then (aX x.2).map fun y=>({ x.1 with version:=y.1 },y.2) else some x
theorem ur(s:Bs):Bx s=(g4 s).bind fun x=>if x.2=[]∧a6 x.1=0 then some x.1 else none:=by
 unfold Bx g4 g3 g2 g1
 cases h1:aX s with
 | none=>rfl
 | some x=>
  obtain⟨k,r⟩:=x
  simp only[Option.map_some,Option.bind_some]
  cases h2:l0 r with
  | none=>rfl
  | some y=>
   obtain⟨key,r2⟩:=y
   simp only[Option.map_some,Option.bind_some]
   by_cases hv:wO k=true
   ·simp only[hv,if_true]
    cases h3:l0 r2 with
    | none=>rfl
    | some z=>
     obtain⟨val,r3⟩:=z
     simp only[Option.map_some,Option.bind_some]
     by_cases h4:k=4
     ·simp only[h4,if_true]
      cases h5:aX r3 with
      | none=>rfl
      | some u=>simp only[Option.map_some,Option.bind_some]
     ·simp only[h4,if_false,Option.bind_some]
   ·simp only[hv,if_false,Bool.false_eq_true,Option.bind_some]
    by_cases h4:k=4
    ·exact absurd (by subst h4;rfl) hv
    ·simp only[h4,if_false,Option.bind_some]
structure GI(o:Option (fe×Bs))(n:Nat)(x:fe×Bs×Bool):Prop where
 len:x.2.1.length≤n
 Zb:if x.2.2=true then o=some (x.1,x.2.1) else o=none
theorem GI.yes{o:Option (fe×Bs)}{n:Nat}{p:fe}{r:Bs}(h:o=some (p,r))(hl:r.length≤n):GI o n (p,r,true):=⟨hl,h⟩
theorem GI.no{o:Option (fe×Bs)}{n:Nat}{p:fe}{r:Bs}(h:o=none)(hl:r.length≤n):GI o n (p,r,false):=⟨hl,h⟩
theorem GI.t{o:Option (fe×Bs)}{n:Nat}{p:fe}{r:Bs}(h:GI o n (p,r,true)):o=some (p,r):=h.Zb
theorem GI.f{o:Option (fe×Bs)}{n:Nat}{p:fe}{r:Bs}(h:GI o n (p,r,false)):o=none:=h.Zb
abbrev Sg:TypeId:=31
def Tb:Option fe→Value
 | some o=>.tuple #[.agg o.cells.toArray,.int .i64 0]
 | none=>.tuple #[.agg (fe.cells ⟨0,bT [],bT [],0⟩).toArray,.int .i64 10]
theorem AL(s:Bs):∃k r ok,Y' (aX s)=.tuple #[.int .i64 k,.string (bT r),.bool ok]∧r.length≤s.length∧(ok=true→aX s=some (k,r))∧(ok=false→aX s=none):=by
 cases h:aX s with
 | none=>exact⟨0,[],false,rfl,ZO _,fun h=>(Bool.false_ne_true h).elim,fun _=>rfl⟩
 | some x=>exact⟨x.1,x.2,true,rfl,by have:=(Gs (n:=x.1) (r:=x.2) h).2.2;omega,fun _=>rfl,fun h=>(Bool.false_ne_true h.symm).elim⟩
theorem EB(s:Bs):∃a r ok,Za (l0 s)=.tuple #[.string (bT a),.string (bT r),.bool ok]∧r.length≤s.length∧(ok=true→l0 s=some (a,r))∧(ok=false→l0 s=none):=by
 cases h:l0 s with
 | none=>exact⟨[],[],false,rfl,ZO _,fun h=>(Bool.false_ne_true h).elim,fun _=>rfl⟩
 | some x=>exact⟨x.1,x.2,true,rfl,(JB (a:=x.1) (r:=x.2) h).2,fun _=>rfl,fun h=>(Bool.false_ne_true h.symm).elim⟩
abbrev gE(b2 b4:Nat)(x:fe×Bs×Bool):Env:=[(2,pV b2),(4,pV b4),(6,.string (bT x.2.1)),(7,.bool x.2.2)]
abbrev gH(b2 b4:Nat)(x:fe×Bs×Bool):List HP:=[pt b4 x.1.cells Sg,pt b2 (fe.cells ⟨0,bT [],bT [],0⟩) Sg]
theorem GI.mk'{o:Option (fe×Bs)}{n:Nat}{p:fe}{r:Bs}{ok:Bool}(hl:r.length≤n)(h1:ok=true→o=some (p,r))(h2:ok=false→o=none):GI o n (p,r,ok):=by
 cases ok with
 | true=>exact GI.yes (h1 rfl) hl
 | false=>exact GI.no (h2 rfl) hl
theorem pD(s:Bs)(hs:s.length≤1000000):aH Tryz.prog 247 [.string (bT s)] Fr w [] (fun v L=>v=Tb (Bx s)∧L=[]):=by
 refine TF 63 Tryz.func247 Z yn ah Z Z ?_
 refine CS (CG (VG (VO.alloc Z fun b2=>?_)))
 refine aq ?_
 refine VG (VO.alloc Z fun b4=>?_)
 refine aq ?_
 obtain⟨k,r,ok,hv,hrl,hk1,hk2⟩:=AL s
 refine VG (VV (fun Fr w hF hw _=>hv▸nD Fr w s hs) Z ?_)
 refine aJ ?_
 refine VG (VO.st 0 (cs':=fe.cells ⟨k,bT [],bT [],0⟩) Z Z Z Z (by show 0<4;omega) Z Z ?_)
 refine aJ ?_
 have hI:GI (g1 s) s.length (⟨k,bT [],bT [],0⟩,r,ok):=GI.mk' hrl (fun h=>by rw[g1,hk1 h];rfl) (fun h=>by rw[g1,hk2 h];rfl)
 clear hk1 hk2 hv
 refine VC.cq (gE b2 b4) (gH b2 b4) (GI (g2 s) s.length) ?_ ?_
 ·refine CC Z (fun h=>?_) (fun h=>CK ?_)
  ·subst h
   obtain⟨a,q,ok,hv,hql,hk1,hk2⟩:=EB r
   refine aJ ?_
   refine Vy ?_
   refine aJ ?_
   refine VG (VO.st 0 (cs':=fe.cells ⟨k,bT a,bT [],0⟩) Z Z Z Z (by show 1<4;omega) Z Z ?_)
   refine aJ ?_
   refine⟨(⟨k,bT a,bT [],0⟩,q,ok),GI.mk' yd (fun h=>by rw[g2,hI.t];show(l0 r).map _=_;rw[hk1 h];rfl) (fun h=>by rw[g2,hI.t];show(l0 r).map _=_;rw[hk2 h];rfl),ba,ER⟩
  ·subst h
   exact⟨(⟨k,bT [],bT [],0⟩,r,false),GI.no (by rw[g2,hI.f];rfl) hrl,ba,ER⟩
 clear hI hrl
 rintro⟨p,r,ok⟩ hI
 refine CS (VC.cq (gE b2 b4) (gH b2 b4) (GI (g3 s) s.length) ?_ ?_)
 ·cases ok with
  | false=>
   refine aJ ?_
   refine VG (VY 25 false Z Z ?_)
   refine KR ?_
   exact⟨(p,r,false),GI.no (by rw[g3,hI.f];rfl) hI.len,ba,ER⟩
  | true=>
   have hrl:r.length≤s.length:=hI.len
   refine aJ ?_
   refine VG (VY 25 true Z Z ?_)
   refine eR ?_
   refine VG (VV (fun Fr w hF hw _=>k_ Fr w p.kind) Z ?_)
   refine aJ ?_
   refine CC Z (fun h=>?_) (fun h=>CK ?_)
   ·obtain⟨a,q,ok,hv,hql,hk1,hk2⟩:=EB r
    have e:g3 s=(l0 r).map fun y=>({ p with value:=bT y.1 },y.2):=by rw[g3,hI.t];exact if_pos h
    refine aJ ?_
    refine Vy ?_
    refine aJ ?_
    refine VG (VO.st 0 (cs':=fe.cells { p with value:=bT a }) Z Z Z Z (by show 2<4;omega) Z Z ?_)
    refine aJ ?_
    exact⟨({ p with value:=bT a },q,ok),GI.mk' yd (fun h=>by rw[e,hk1 h];rfl) (fun h=>by rw[e,hk2 h];rfl),ba,ER⟩
   ·exact⟨(p,r,true),GI.yes (by rw[g3,hI.t];exact if_neg (by rw[show wO p.kind=false from h];decide)) hrl,ba,ER⟩
 clear hI
 clear p r ok
 rintro⟨p,r,ok⟩ hI
 refine CS (VC.cq (gE b2 b4) (gH b2 b4) (GI (g4 s) s.length) ?_ ?_)
 ·cases ok with
  | false=>
   refine aJ ?_
   refine VG (VY 38 false Z Z ?_)
   refine KR ?_
   exact⟨(p,r,false),GI.no (by rw[g4,hI.f];rfl) hI.len,ba,ER⟩
  | true=>
   have hrl:r.length≤s.length:=hI.len
   refine aJ ?_
   refine VG (VY 38 true Z Z ?_)
   refine eR ?_
   refine CE Z (fun h=>?_) (fun h=>CK ?_)
   ·obtain⟨k,q,ok,hv,hql,hk1,hk2⟩:=AL r
    have e:g4 s=(aX r).map fun y=>({ p with version:=y.1 },y.2):=by rw[g4,hI.t];exact if_pos h
    refine aJ ?_
    refine VG (VV (fun Fr w hF hw _=>hv▸nD Fr w r yd) Z ?_)
    refine aJ ?_
    refine VG (VO.st 0 (cs':=fe.cells { p with version:=k }) Z Z Z Z (by show 3<4;omega) Z Z ?_)
    refine aJ ?_
    exact⟨({ p with version:=k },q,ok),GI.mk' yd (fun h=>by rw[e,hk1 h];rfl) (fun h=>by rw[e,hk2 h];rfl),ba,ER⟩
   ·exact⟨(p,r,true),GI.yes (by rw[g4,hI.t];exact if_neg h) hrl,ba,ER⟩
 clear hI
 clear p r ok
 rintro⟨p,r,ok⟩ hI
 refine aJ ?_
 cases ok with
 | false=>
  refine VG (VY 52 true Z Z ?_)
  refine aJ ?_
  refine VG (VY 56 true Z Z ?_)
  refine wI ?_
  refine Vz ?_
  refine VE ?_
  refine aJ ?_
  exact CR (ay.aT 2 3 Z Z Z (aE.many (ds:=fe.cells ⟨0,bT [],bT [],0⟩) 1 Z Z) Z ae.nil.ar ⟨by rw[ur,hI.f];rfl,Z⟩)
 | true=>
 refine VG (VY 52 false Z Z ?_)
 refine aJ ?_
 by_cases hr:r=[]
 rotate_left
 ·refine VG (VY 56 true Z (by rw[show(ByteArray.mk #[])=bT [] from Z,p9,DF hr];rfl) ?_)
  refine wI ?_
  refine Vz ?_
  refine VE ?_
  refine aJ ?_
  exact CR (ay.aT 2 3 Z Z Z (aE.many (ds:=fe.cells ⟨0,bT [],bT [],0⟩) 1 Z Z) Z ae.nil.ar ⟨by rw[ur,hI.t,Option.bind_some,if_neg (fun h=>hr h.1)];rfl,Z⟩)
 refine VG (VY 56 false Z (by rw[show(ByteArray.mk #[])=bT [] from Z,p9,DT hr];rfl) ?_)
 refine eR ?_
 refine VG (VL 0 p.cells Z Z Z Z ?_)
 refine VG (VV (fun Fr w hF hw _=>Api.bm Fr w p) Z ?_)
 refine aJ ?_
 refine VC.bo Z (fun hc=>?_) (fun hc=>CK ?_)
 ·refine aJ ?_
  refine Vz ?_
  refine VE ?_
  refine aJ ?_
  exact CR (ay.aT 2 3 Z Z Z (aE.many (ds:=fe.cells ⟨0,bT [],bT [],0⟩) 1 Z Z) Z ae.nil.ar ⟨by rw[ur,hI.t,Option.bind_some,if_neg (fun h=>hc h.2)];rfl,Z⟩)
 refine eR ?_
 refine VG (VL 0 p.cells Z Z Z Z ?_)
 refine VG (VT (vs:=p.cells) (cs':=p.cells) 1 Z Z Z Z (NR _) Z Z Z ?_)
 refine aJ ?_
 exact CR (ay.aT 2 3 Z Z Z (aE.many (ds:=p.cells) 1 Z Z) Z ae.nil.ar ⟨by rw[ur,hI.t,Option.bind_some,if_pos ⟨hr,hc⟩];rfl,Z⟩)
end Cl
namespace Cl
open Go Vg T Api Ch
attribute [local irreducible] VO VC VA
theorem Tc{c:dO}(h:si c=0):qm c=true:=by
 unfold si at h
 by_cases hc:qm c=true
 ·exact hc
 ·rw[if_neg hc] at h;exact absurd h yp
theorem js{c:dO}(h:si c=0):1≤c.ms.length∧c.ms.length≤6∧1≤c.al∧c.al≤1099511627776:=by
 have:=Tc h
 simp[qm,ql] at this
 omega
def CH(m:bI):Bs:=fT m.1++fT m.2
theorem JC(m:bI):(CH m).length≤18:=by
 have:=bL m.1
 have:=bL m.2
 rw[CH,ZM];omega
theorem rT:∀ms:List bI,(ms.flatMap CH).length≤18*ms.length
 | []=>NR _
 | m::ms=>by
  have:=JC m
  have:=rT ms
  rw[List.flatMap_cons,ZM,ZW];omega
theorem N'{c:dO}(h:si c=0):(Wr c).length≤135:=by
 obtain⟨h1,h2,_⟩:=js h
 have a:=bL c.al
 have b:=bL (c.ms.length:Int)
 have d:=bL c.drain
 have m:=rT c.ms
 show(fT c.al++fT c.ms.length++c.ms.flatMap CH++fT c.drain).length≤_
 simp only[ZM];omega
theorem Hl{c:dO}{a:Option Addr}{cap:Nat}(h:aK ax 2 Fr w a c.ms)(hl:c.ms.length≤1000000):aH Tryz.prog 227 [.agg (c.cells a cap).toArray] Fr w [] (fun v L=>v=.tuple #[.string (bT (if si c=0 then Wr c else [])),.int .i64 (si c)]∧L=[]):=by
 refine TF 43 Tryz.func227 Z yn ah Z Z ?_
 refine CS (CG (VG (VB (vs:=c.cells a cap) Z fun b=>VG (VN ?_))))
 refine aq ?_
 refine UY ?_
 refine VG (VV (fun Fr w hF hw _=>Ch.bm Fr w (h.of hF hw) yd) Z ?_)
 refine aq ?_
 refine VC.bo Z (fun h2=>?_) (fun h2=>CK ?_)
 ·refine aq ?_
  exact CR (ay.cV 2 3 Z Z Z ae.nil.ar ⟨by rw[if_neg h2];rfl,Z⟩)
 rw[if_pos h2,h2]
 obtain⟨h3,h4,_⟩:=js h2
 have l1:=bL c.al
 have l2:=bL (c.ms.length:Int)
 have l3:=bL c.drain
 have l4:=rT c.ms
 refine aq ?_
 refine CD (ts 0 2 (ts 3 3 (.only 2 (.only 6 (ts 7 2 .nil))))) yn yr ?_
 refine eW ?_
 refine AG (AR (fun Fr w hF hs hS=>eQ Fr w c.al) Z Z yu ?_)
 refine AG (AR (fun Fr w hF hs hS=>eQ Fr w c.ms.length) Z Z yu ?_)
 refine R6 ?_
 rw[←gP]
 refine OZ ?_
 refine VC.loop (σ:=Nat) (fun k=>[(1,pV b),(22,.slice a c.ms.length cap),(23,.int .i64 c.ms.length),(24,.int .i64 (k:Int)),(5,.string (bT (fT c.al++fT c.ms.length++(c.ms.take k).flatMap CH)))]) (fun _=>[pt b (c.cells a cap) kP]) (fun k=>k≤c.ms.length) (fun k=>c.ms.length-k) 0
  (ZO _) (SC rfl (SC rfl (SC rfl (SC rfl (SC Xg (SN _)))))) ER ?_
 rintro k hk
 refine aq ?_
 refine CP (p:=(k:Int)<c.ms.length) Z (fun h5=>CK ?_) (fun h5=>CX ?_)
 ·obtain⟨m,hm⟩:∃m,c.ms[k]?=some m:=⟨_,GE yd⟩
  obtain⟨mb,mo,hma,ra,rc⟩:=aK.rd (X:=⟨Tryz.prog,tab,ah,43,Fr,w⟩) h hm
  subst hma
  have e:(c.ms.take (k+1)).flatMap CH=(c.ms.take k).flatMap CH++(fT m.1++fT m.2):=by rw[ZZ,hm,List.flatMap_append];simp[CH]
  have l5:=rT (c.ms.take k)
  rw[Z1] at l5
  have l6:=bL m.1
  have l7:=bL m.2
  refine HZ ?_
  refine H6 ?_
  refine VG (VO.alloc Z fun b7=>?_)
  refine VG (VT (vs:=ax m) (cs':=ax m) 0 Z Z Z Z (NR _) Z Z Z ?_)
  refine aq ?_
  refine CD (ts 0 3 (ts 4 2 (.only 3 (.only 6 (ts 7 3 .nil))))) yn yr ?_
  refine eW ?_
  refine AG (AR (fun Fr w hF hs hS=>eQ Fr w m.1) Z Z yu ?_)
  refine AG (AR (fun Fr w hF hs hS=>eQ Fr w m.2) Z Z yu ?_)
  refine R6 ?_
  refine AG (AI Z (bq Z Z (by rw[ByteArray.size_append,dk,dk,dk];simp only[ZM];omega)) ?_)
  rw[←gP,←gP]
  refine eW ?_
  refine qT ?_
  refine⟨k+1,by omega,by dsimp only;omega,SC Z (SC Z (SC Z (Sub.int Z yd (SC Xl (SN _))))),(IP 1 Z ae.nil).ar⟩
 obtain rfl:k=c.ms.length:=by omega
 rw[Z']
 refine an ?_
 refine VG (VV (fun Fr w hF hw _=>eQ Fr w c.drain) Z ?_)
 refine Uh ?_
 rw[←gP]
 refine an ?_
 exact CR (ay.cV 2 3 Z Z Z ae.nil.ar ⟨rfl,Z⟩)
end Cl
namespace Cl
open Go Vg T Api Ch
attribute [local irreducible] VO VC VA
def eH(c:dO):dO×Int:=if cm c≠0 then (eF,2) else (⟨c.al+1,c.ms,c.drain⟩,0)
def Td(r:dO×Int)(v:Value)(L:List HP):Prop:=∃a c,v=.tuple #[.agg (r.1.cells a c).toArray,.int .i64 r.2]∧L=[aI aG 2 a r.1.ms.length c (flat ax r.1.ms)]
theorem FK{c:dO}(h:cm c=0):si c=0∧c.al≠1099511627776:=by
 unfold cm at h
 split at h
 ·exact absurd h yp
 ·rename_i k
  exact⟨Classical.byContradiction fun e=>k (.inl e),fun e=>k (.inr e)⟩
section
variable {c:dO} {a:Option Addr} {cap:Nat}
theorem AM(h:aK ax 2 Fr w a c.ms)(hl:c.ms.length≤1000000):aH Tryz.prog 201 [.agg (c.cells a cap).toArray] Fr w [] (Td (eH c)):=by
 refine TF 22 Tryz.func201 Z yn ah Z Z ?_
 refine CS (CG (VG (VB (vs:=c.cells a cap) Z fun b=>VG (VO.alloc Z fun b2=>?_))))
 refine aq ?_
 refine Px ?_
 refine VG (VV (fun Fr w hF hw _=>Ch.bm Fr w (h.of hF hw) yd) Z ?_)
 refine aJ ?_
 have bad:∀{X:Cx} {E:Env} {fn:Func} {ti:TI} {L:List HP},fn.results=#[.cell 2 kP,.tmp 3]→Vg.look E 2=some (.pointer (some ⟨b2,0,none⟩))→Vg.look E 3=some (.int .i64 2)→aL X.tab kP=some ti→ti.aU.agg=true→ti.size=3→cm c≠0→ay X fn (Td (eH c)) E (pt b2 (eF.cells none 0) kP::L):=fun h1 h2 h3 h4 h5 h6 h7=>
  ay.aT 2 3 h1 h2 h4 (aE.many (ds:=eF.cells none 0) 0 rfl (by rw[h6];rfl) (by rw[h6];rfl) h5) h3 (ae.bZ ae.nil).ar (by rw[eH,if_pos h7];exact⟨none,0,rfl,rfl⟩)
 by_cases h1:si c=0
 rotate_left
 ·have hf:cm c≠0:=by rw[cm,if_pos (.inl h1)];decide
  refine VG (VY 7 true Z (by rw[bne_iff_ne];exact h1) ?_)
  refine wI ?_
  refine Yv ?_
  refine Yw ?_
  refine aJ ?_
  exact CR (bad Z Z Z Z Z Z hf)
 obtain⟨g1,g2,g3,g4⟩:=js h1
 refine VG (VY 7 false Z (by rw[bne_eq_false_iff_eq];exact h1) ?_)
 refine wH ?_
 refine CE Z (fun h2=>?_) (fun h2=>CK ?_)
 ·have hf:cm c≠0:=by rw[cm,if_pos (.inr h2)];decide
  refine KS ?_
  refine Yw ?_
  refine aJ ?_
  exact CR (bad Z Z Z Z Z Z hf)
 have hf:cm c=0:=by rw[cm,if_neg (by simp[h1,h2])]
 refine aJ ?_
 refine CD (ts 0 5 (ts 6 2 (.only 5 (.take 8 (.only 9 (.take 10 .nil)))))) yn yr ?_
 refine qg ?_
 refine H8 ?_
 refine qg ?_
 refine AG (AO (OC (Lc:=[]) (Lr:=[pt b2 (eF.cells none 0) kP,pt b (c.cells a cap) kP]) rfl (.refl _) (fun Fr w hF hs hS=>CA Fr w (h.of hF hs) hl)) rfl (fun v L' g=>by obtain⟨_,⟨_,_,rfl,rfl⟩,rfl⟩:=g;exact Dy) ?_)
 rintro _ _ ⟨_,⟨ma,mc,rfl,rfl⟩,rfl⟩
 refine AG (AI Z (LB (pv:=[(0,.int .i64 (c.al+1)),(1,.slice ma c.ms.length mc),(2,.int .i64 c.drain)]) ((dO.mk (c.al+1) c.ms c.drain).cells ma mc) Z Z Z yn Z) ?_)
 refine AG (AT (vs:=(dO.mk (c.al+1) c.ms c.drain).cells ma mc) (cs':=(dO.mk (c.al+1) c.ms c.drain).cells ma mc) 1 Z Z Z Z Z (NR _) Z Z Z yu ?_)
 refine jo ?_
 exact CR (ay.aT 2 3 Z Z Z (aE.many (ds:=(dO.mk (c.al+1) c.ms c.drain).cells ma mc) 1 Z Z) Z (L':=[aI aG 2 ma c.ms.length mc (flat ax c.ms)]) (IP 0 Z ae.nil).ar (by rw[eH,if_neg TJ];exact⟨ma,mc,Z,Z⟩))
theorem AS(h:aK ax 2 Fr w a c.ms)(hl:c.ms.length≤1000000)(n:Int):aH Tryz.prog 202 [.agg (c.cells a cap).toArray,.int .i64 n] Fr w []
  (fun v L=>v=.tuple #[.int .i64 (if dh c n≠0 then 0 else placeOf c.ms n),.int .i64 (dh c n)]∧L=[]):=by
 refine TF 19 Tryz.func202 Z yn ah Z Z ?_
 refine CS (CG (VG (VB (vs:=c.cells a cap) Z fun b=>?_)))
 refine aq ?_
 refine UY ?_
 refine RT ?_
 rintro _ _ ⟨pb,rfl,rfl⟩
 refine aq ?_
 refine TR ?_
 refine aq ?_
 refine CP Z (fun h1=>?_) (fun h1=>?_)
 ·refine aq ?_
  exact CR (ay.cV 4 5 Z Z Z ae.nil.ar ⟨by rw[dh,if_pos h1];rfl,Z⟩)
 refine aq ?_
 refine Rp ?_
 refine aq ?_
 refine CE Z (fun h2=>?_) (fun h2=>CK ?_)
 ·have h2:c.ms.length=1:=by omega
  refine aq ?_
  exact CR (ay.cV 4 5 Z Z Z ae.nil.ar ⟨by rw[dh,if_neg h1,if_pos h2];rfl,Z⟩)
 have h2:¬c.ms.length=1:=by omega
 refine aq ?_
 exact CR (ay.cV 4 5 Z Z Z ae.nil.ar ⟨by rw[dh,if_neg h1,if_neg h2];rfl,Z⟩)
end
end Cl
namespace Cl
open Go Vg T Api Ch
attribute [local irreducible] VO VC VA
def WE(ep:Int)(a:Value)(dr:Int):List Value:=[.int .i64 ep,a,.int .i64 dr]
section
variable {c:dO} {a:Option Addr} {cap:Nat}
theorem Hm(h:aK ax 2 Fr w a c.ms)(hl:c.ms.length≤1000000)(n:Int):aH Tryz.prog 188 [.agg (c.cells a cap).toArray,.int .i64 n] Fr w [] (Td (fN c n)):=by
 have hpl:=gv c.ms n
 refine TF 38 Tryz.func188 Z yn ah Z Z ?_
 refine CS (CG (VG (VB (vs:=c.cells a cap) Z fun b=>VG (VO.alloc Z fun b4=>?_))))
 refine aq ?_
 refine Px ?_
 refine VF ?_
 rintro _ _ ⟨ma,mc,rfl,rfl⟩
 by_cases hf:cm c=0
 rotate_left
 ·have hf2:eH c=(eF,2):=by rw[eH,if_pos hf]
  rw[hf2]
  refine aJ ?_
  refine VH ?_
  refine aJ ?_
  refine VC.bo Z (fun _=>?_) (fun e=>absurd e yp)
  refine KS ?_
  refine aJ ?_
  refine PJ ?_
  exact CR (ay.aT 4 5 Z Z Z (aE.many (ds:=eF.cells none 0) 1 Z Z) Z (L':=[aI aG 2 none 0 0 (flat ax [])]) (ae.bZ ae.nil).ar (by rw[fN,if_pos hf];exact⟨none,0,Z,Z⟩))
 have hf2:eH c=(⟨c.al+1,c.ms,c.drain⟩,0):=by rw[eH,if_neg TJ]
 obtain⟨hce,hep⟩:=FK hf
 obtain⟨g1,g2,g3,g4⟩:=js hce
 have hM:¬cm c≠0:=by rw[hf];decide
 rw[hf2]
 refine aJ ?_
 refine VJ ?_
 refine aJ ?_
 refine VC.bo Z (fun e=>absurd Z e) (fun _=>?_)
 refine aJ ?_
 refine VG (VV (fun Fr w hF hw _=>Ch.xD Fr w n) Z ?_)
 refine aJ ?_
 refine VC.dX Z (fun h2=>?_) (fun h2=>?_)
 ·refine KS ?_
  refine PJ ?_
  exact CR (ay.aT 4 5 Z Z Z (aE.many (ds:=eF.cells none 0) 1 Z Z) Z (L':=[aI aG 2 none 0 0 (flat ax [])]) (ae.bZ ae.nil).ar (by rw[fN,if_neg hM,if_pos h2];exact⟨none,0,Z,Z⟩))
 refine Wh ?_
 refine RT ?_
 rintro _ _ ⟨pb,rfl,rfl⟩
 refine aJ ?_
 refine TR ?_
 refine aJ ?_
 refine CP (p:=0≤placeOf c.ms n) Z (fun h3=>?_) (fun h3=>CK ?_)
 ·refine KS ?_
  refine VG (VT (vs:=eF.cells none 0) (cs':=eF.cells none 0) 2 Z Z Z Z (NR _) Z Z Z ?_)
  refine aJ ?_
  exact CR (ay.aT 4 5 Z Z Z (aE.many (ds:=eF.cells none 0) 2 Z Z) Z (L':=[aI aG 2 none 0 0 (flat ax [])]) (ae.bZ ae.nil).ar (by rw[fN,if_neg hM,if_neg (by rw[h2];decide),if_pos h3];exact⟨none,0,Z,Z⟩))
 refine pQ ?_
 refine VG (VI (LB (pv:=[(0,.int .i64 n),(1,.int .i64 (c.al+1))]) (ax (n,c.al+1)) Z Z Z yn Z) ?_)
 refine VG (VO.buildSlice (pv:=[(0,.agg (ax (n,c.al+1)).toArray)]) (ax (n,c.al+1)) Z Z Z Z yp (bJ Z Z Z) fun sb=>?_)
 refine VG (VO.append (m:=1) (news:=ax (n,c.al+1)) 2 Z Z Z Z Z Z Z (dt.pt 0 Z Z Z) Z (by show(c.ms.length+1)*16≤_;omega) (by show c.ms.length+1≤_;omega) fun a2 c2 hc2=>?_)
 have hlen:(c.ms ++ [(n,c.al+1)]).length=c.ms.length+1:=by simp
 have hcc:WE (c.al+1) (.slice a2 (c.ms.length+1) c2) c.drain=(dO.mk (c.al+1) (c.ms ++ [(n,c.al+1)]) c.drain).cells a2 c2:=by unfold WE dO.cells;rw[hlen]
 refine aJ ?_
 refine VG (VO.st 3 (cs':=WE (c.al+1) (.slice a2 (c.ms.length+1) c2) c.drain) Z Z Z Z OQ Z Z ?_)
 rw[hcc]
 refine aJ ?_
 refine VG (VL 3 ((dO.mk (c.al+1) (c.ms ++ [(n,c.al+1)]) c.drain).cells a2 c2) Z Z Z Z ?_)
 refine VG (VT (vs:=(dO.mk (c.al+1) (c.ms ++ [(n,c.al+1)]) c.drain).cells a2 c2) (cs':=(dO.mk (c.al+1) (c.ms ++ [(n,c.al+1)]) c.drain).cells a2 c2) 3 Z Z Z Z (NR _) Z Z Z ?_)
 refine aJ ?_
 have hW:fN c n=(⟨c.al+1,c.ms ++ [(n,c.al+1)],c.drain⟩,0):=by rw[fN,if_neg hM,if_neg (by rw[h2];decide),if_neg h3]
 exact CR (ay.aT 4 5 Z Z Z (aE.many (ds:=(dO.mk (c.al+1) (c.ms ++ [(n,c.al+1)]) c.drain).cells a2 c2) 3 Z Z) Z (L':=[aI aG 2 a2 (c.ms ++ [(n,c.al+1)]).length c2 (flat ax (c.ms ++ [(n,c.al+1)]))]) (by rw[hlen,bf];exact(IP 0 Z ae.nil).ar) Xw)
theorem AU(h:aK ax 2 Fr w a c.ms)(hl:c.ms.length≤1000000)(n:Int):aH Tryz.prog 180 [.agg (c.cells a cap).toArray,.int .i64 n] Fr w [] (Td (dL c n)):=by
 have hpl:=gv c.ms n
 refine TF 39 Tryz.func180 Z yn ah Z Z ?_
 refine CS (CG (VG (VB (vs:=c.cells a cap) Z fun b=>VG (VO.alloc Z fun b4=>?_))))
 refine aq ?_
 refine Px ?_
 refine VF ?_
 rintro _ _ ⟨ma,mc,rfl,rfl⟩
 by_cases hf:cm c=0
 rotate_left
 ·have hf2:eH c=(eF,2):=by rw[eH,if_pos hf]
  rw[hf2]
  refine aJ ?_
  refine VH ?_
  refine aJ ?_
  refine VC.bo Z (fun _=>?_) (fun e=>absurd e yp)
  refine KS ?_
  refine aJ ?_
  refine PJ ?_
  exact CR (ay.aT 4 5 Z Z Z (aE.many (ds:=eF.cells none 0) 1 Z Z) Z (L':=[aI aG 2 none 0 0 (flat ax [])]) (ae.bZ ae.nil).ar (by rw[dL,if_pos hf];exact⟨none,0,Z,Z⟩))
 have hf2:eH c=(⟨c.al+1,c.ms,c.drain⟩,0):=by rw[eH,if_neg TJ]
 obtain⟨hce,hep⟩:=FK hf
 obtain⟨g1,g2,g3,g4⟩:=js hce
 have hM:¬cm c≠0:=by rw[hf];decide
 rw[hf2]
 refine aJ ?_
 refine VJ ?_
 refine aJ ?_
 refine VC.bo Z (fun e=>absurd Z e) (fun _=>CK ?_)
 refine Wh ?_
 refine Yx ?_
 by_cases hlv:dh c n=0
 rotate_left
 ·rw[if_pos hlv]
  refine aJ ?_
  refine VC.bo Z (fun _=>?_) (fun e=>absurd e hlv)
  refine KS ?_
  refine aJ ?_
  refine PJ ?_
  exact CR (ay.aT 4 5 Z Z Z (aE.many (ds:=eF.cells none 0) 1 Z Z) Z (L':=[aI aG 2 none 0 0 (flat ax [])]) (ae.bZ ae.nil).ar (by rw[dL,if_neg hM,if_pos hlv];exact⟨none,0,Z,Z⟩))
 have hpp:¬placeOf c.ms n<0∧¬c.ms.length=1:=by
  unfold dh at hlv
  by_cases p:placeOf c.ms n<0
  ·rw[if_pos p] at hlv;exact absurd hlv yp
  ·refine⟨p,fun e=>?_⟩
   rw[if_neg p,if_pos e] at hlv;exact absurd hlv yp
 obtain⟨i,hi,hil⟩:∃i:Nat,placeOf c.ms n=i∧i<c.ms.length:=by
  rcases hpl with e | ⟨i,m,e,h2,_⟩
  ·omega
  ·exact⟨i,e,h2⟩
 rw[if_neg RQ,hi]
 refine aJ ?_
 refine VC.bo Z (fun e=>absurd hlv e) (fun _=>CK ?_)
 refine wH ?_
 refine Gd ?_
 refine VG (VK (Lc:=[aI aG 2 ma c.ms.length mc (flat ax c.ms)]) (fun Fr w hF hw _=>AD Fr w (l:=c.ms) hil yd) Z Z ?_)
 rintro _ _ ⟨a2,c2,rfl,rfl⟩
 refine aJ ?_
 refine VG (VO.st 1 (cs':=(dO.mk (c.al+1) (c.ms.eraseIdx i) c.drain).cells a2 c2) Z Z Z Z OQ Z Z (VG (VN ?_)))
 refine CS (VC.cq (σ:=Int) (fun d=>[(4,pV b4)]) (fun d=>[aI aG 2 a2 (c.ms.eraseIdx i).length c2 (flat ax (c.ms.eraseIdx i)),pt b4 ((dO.mk (c.al+1) (c.ms.eraseIdx i) d).cells a2 c2) kP]) (fun d=>d=if c.drain=n then -1 else c.drain) ?_ ?_)
 ·refine wH ?_
  refine CE Z (fun h5=>?_) (fun h5=>CK ?_)
  ·refine aJ ?_
   refine VG (VO.st 1 (cs':=(dO.mk (c.al+1) (c.ms.eraseIdx i) (-1)).cells a2 c2) Z Z Z Z TG Z Z ?_)
   refine aJ ?_
   exact⟨-1,by rw[if_pos h5],ba,(dF [0,0]).ar⟩
  ·exact⟨c.drain,by rw[if_neg h5],ba,(dF [0,0]).ar⟩
 rintro d hd
 have hW:dL c n=(⟨c.al+1,c.ms.eraseIdx i,d⟩,0):=by rw[dL,if_neg hM,if_neg RQ,hi,hd];rfl
 refine aJ ?_
 refine VG (VL 1 ((dO.mk (c.al+1) (c.ms.eraseIdx i) d).cells a2 c2) Z Z Z Z ?_)
 refine VG (VT (vs:=(dO.mk (c.al+1) (c.ms.eraseIdx i) d).cells a2 c2) (cs':=(dO.mk (c.al+1) (c.ms.eraseIdx i) d).cells a2 c2) 1 Z Z Z Z (NR _) Z Z Z ?_)
 refine aJ ?_
 exact CR (ay.aT 4 5 Z Z Z (aE.many (ds:=(dO.mk (c.al+1) (c.ms.eraseIdx i) d).cells a2 c2) 1 Z Z) Z (L':=[aI aG 2 a2 (c.ms.eraseIdx i).length c2 (flat ax (c.ms.eraseIdx i))]) (IP 0 Z ae.nil).ar Xw)
theorem EC(h:aK ax 2 Fr w a c.ms)(hl:c.ms.length≤1000000)(n:Int):aH Tryz.prog 120 [.agg (c.cells a cap).toArray,.int .i64 n] Fr w [] (Td (ft c n)):=by
 have hpl:=gv c.ms n
 refine TF 32 Tryz.func120 Z yn ah Z Z ?_
 refine CS (CG (VG (VB (vs:=c.cells a cap) Z fun b=>VG (VO.alloc Z fun b4=>?_))))
 refine aq ?_
 refine Px ?_
 refine VF ?_
 rintro _ _ ⟨ma,mc,rfl,rfl⟩
 by_cases hf:cm c=0
 rotate_left
 ·have hf2:eH c=(eF,2):=by rw[eH,if_pos hf]
  rw[hf2]
  refine aJ ?_
  refine VH ?_
  refine aJ ?_
  refine VC.bo Z (fun _=>?_) (fun e=>absurd e yp)
  refine KS ?_
  refine aJ ?_
  refine PJ ?_
  exact CR (ay.aT 4 5 Z Z Z (aE.many (ds:=eF.cells none 0) 1 Z Z) Z (L':=[aI aG 2 none 0 0 (flat ax [])]) (ae.bZ ae.nil).ar (by rw[ft,if_pos hf];exact⟨none,0,Z,Z⟩))
 have hf2:eH c=(⟨c.al+1,c.ms,c.drain⟩,0):=by rw[eH,if_neg TJ]
 obtain⟨hce,hep⟩:=FK hf
 obtain⟨g1,g2,g3,g4⟩:=js hce
 have hM:¬cm c≠0:=by rw[hf];decide
 rw[hf2]
 refine aJ ?_
 refine VJ ?_
 refine aJ ?_
 refine VC.bo Z (fun e=>absurd Z e) (fun _=>CK ?_)
 refine Wh ?_
 refine Yx ?_
 by_cases hlv:dh c n=0
 rotate_left
 ·rw[if_pos hlv]
  refine aJ ?_
  refine VC.bo Z (fun _=>?_) (fun e=>absurd e hlv)
  refine KS ?_
  refine aJ ?_
  refine PJ ?_
  exact CR (ay.aT 4 5 Z Z Z (aE.many (ds:=eF.cells none 0) 1 Z Z) Z (L':=[aI aG 2 none 0 0 (flat ax [])]) (ae.bZ ae.nil).ar (by rw[ft,if_neg hM,if_pos hlv];exact⟨none,0,Z,Z⟩))
 rw[if_neg RQ]
 refine aJ ?_
 refine VC.bo Z (fun e=>absurd hlv e) (fun _=>CK ?_)
 refine aJ ?_
 refine VG (VO.ld 2 Z Z Z Z ?_)
 refine aJ ?_
 refine VC.bo Z (fun h5=>?_) (fun h5=>CK ?_)
 ·refine KS ?_
  refine PJ ?_
  exact CR (ay.aT 4 5 Z Z Z (aE.many (ds:=eF.cells none 0) 1 Z Z) Z (L':=[aI aG 2 none 0 0 (flat ax [])]) (ae.bZ ae.nil).ar (by rw[ft,if_neg hM,if_neg RQ,if_pos h5];exact⟨none,0,Z,Z⟩))
 have hW:ft c n=(⟨c.al+1,c.ms,n⟩,0):=by rw[ft,if_neg hM,if_neg RQ,if_neg yd]
 refine aJ ?_
 refine VG (VO.st 1 (cs':=(dO.mk (c.al+1) c.ms n).cells ma mc) Z Z Z Z TG Z Z ?_)
 refine aJ ?_
 refine VG (VL 1 ((dO.mk (c.al+1) c.ms n).cells ma mc) Z Z Z Z ?_)
 refine VG (VT (vs:=(dO.mk (c.al+1) c.ms n).cells ma mc) (cs':=(dO.mk (c.al+1) c.ms n).cells ma mc) 1 Z Z Z Z (NR _) Z Z Z ?_)
 refine aJ ?_
 exact CR (ay.aT 4 5 Z Z Z (aE.many (ds:=(dO.mk (c.al+1) c.ms n).cells ma mc) 1 Z Z) Z (L':=[aI aG 2 ma c.ms.length mc (flat ax c.ms)]) (IP 0 Z ae.nil).ar (by rw[hW];exact⟨ma,mc,Z,Z⟩))
end
end Cl
namespace Cl
open Go Vg T Api Ch Rep
attribute [local irreducible] VO VC VA
abbrev qL:TypeId:=111
def mD(m:aC):List Value:=m.heard.map (Value.int .i64)
def ug(m:aC):List Value:=m.whole.map Value.bool
def bU(m:aC)(a:Option Addr)(c:Nat):List Value:=[.int .i64 m.nodes,.int .i64 m.bu]++m.ch.cells a c++mD m++ug m
structure aC.Ok(m:aC):Prop where
 n0:1≤m.nodes
 n1:m.nodes≤6
 p0:0≤m.bu
 p1:m.bu≤1000000
 ml:m.ch.ms.length≤7
 mr:∀x∈m.ch.ms,0≤x.1∧x.1<6
 hl:m.heard.length=6
 wl:m.whole.length=6
 hr:∀x∈m.heard,0≤x∧x≤1099511627776
abbrev rU:=n_×(Option Addr×Nat)
def jP(x:rU):List Value:=.int .i64 x.1.1::x.1.2.1.cells (x.2.1,x.1.2.2.length,x.2.2)
theorem uu(x:rU):(jP x).length=30:=rfl
def ke(x:rU):HP:=aI aG 2 x.2.1 x.1.2.2.length x.2.2 (flat ax x.1.2.2)
def kK(S:List n_)(v:Value)(L:List HP)(H:List HP):Prop:=∃(X:List rU) (a:Option Addr) (c:Nat),X.map Prod.fst=S∧v=.slice a X.length c∧L=H++(aI iA 30 a X.length c (flat jP X)::X.map ke)
theorem rV{c:dO}{a:Option Addr}{cap:Nat}(h:aK ax 2 Fr w a c.ms)(hl:c.ms.length≤1000000):aH Tryz.prog 108 [.agg (c.cells a cap).toArray] Fr w []
  (fun v L=>∃a' c',v=.agg (c.cells a' c').toArray∧L=[aI aG 2 a' c.ms.length c' (flat ax c.ms)]):=by
 refine TF 8 Tryz.func108 Z yn ah Z Z ?_
 refine CS (CG (VG (VB (vs:=c.cells a cap) Z (fun b=>VG (VO.alloc Z fun d=>VG (VN ?_))))))
 refine jd ?_
 refine Yc ?_
 refine VG (VO.append (m:=c.ms.length) (news:=flat ax c.ms) 0 Z Z Z Z Z Z Z (aK.row aF h) (gU kB _) Xp yd fun a' c' _=>?_)
 rw[ZQ,List.nil_append]
 refine an ?_
 refine VG (VO.st 2 (cs':=c.cells a' c') Z Z Z Z OQ Z Z (VG (VN ?_)))
 refine CS (CG (VG (VL 2 (c.cells a' c') Z Z Z Z (VG (VT (vs:=c.cells a' c') (cs':=c.cells a' c') 1 Z Z Z Z (NR _) Z Z Z (VG (VN ?_)))))))
 exact Vk
theorem nE(n:Int):aH Tryz.prog 107 [.int .i64 n] Fr w [] (fun v L=>v=.int .i64 (cw n)∧L=[]):=by
 refine TF 6 Tryz.func107 Z yn ah Z Z ?_
 refine aq ?_
 exact CR (ay.int 2 Z Z Xk ER ⟨rfl,Z⟩)
section
variable {p:Nat} {M:aC} {a:Option Addr} {c:Nat}
theorem vP(ok:M.Ok)(h:eS Fr w p (bU M a c)):aH Tryz.prog 106 [.pointer (some ⟨p,0,none⟩)] Fr w [] (fun v L=>v=.bool true∧L=[]):=by
 have:=ok.n0
 refine TF 12 Tryz.func106 Z yn ah Z Z ?_
 refine Ux ?_
 refine zn ?_
 exact CR (ay.bool (b:=true) 2 Z Z (DT yd) ER ⟨rfl,Z⟩)
theorem rW(h:eS Fr w p (bU M a c))(n:Int):aH Tryz.prog 187 [.pointer (some ⟨p,0,none⟩),.int .i64 n] Fr w [] (fun v L=>v=.bool (M.isNode n)∧L=[]):=by
 refine TF 15 Tryz.func187 Z yn ah Z Z ?_
 refine aJ ?_
 by_cases h1:0≤n
 ·refine VG (VY 7 true Z (DT h1) ?_)
  refine zn ?_
  exact CR (ay.bool 4 Z Z (by rw[aC.isNode,DT h1];rfl) ER ⟨rfl,Z⟩)
 ·refine VG (VY 7 false Z (DF h1) ?_)
  refine aJ ?_
  exact CR (ay.bool 4 Z Z (by rw[aC.isNode,DF h1];rfl) ER ⟨rfl,Z⟩)
theorem QU:((bU M a c).drop 2).take 3=M.ch.cells a c:=rfl
theorem rX(ok:M.Ok)(h:eS Fr w p (bU M a c))(hm:aK ax 2 Fr w a M.ch.ms)(n:Int):aH Tryz.prog 116 [.pointer (some ⟨p,0,none⟩),.int .i64 n] Fr w [] (fun v L=>v=.bool (a7 M.ch n).2∧L=[]):=by
 have hl:=ok.ml
 refine TF 17 Tryz.func116 Z yn ah Z Z ?_
 refine aJ ?_
 refine VR ?_
 refine aJ ?_
 refine VG (VV (fun Fr w hF hw _=>qp Fr w (hm.of hF hw) yd n) Z ?_)
 refine aJ ?_
 exact PB
theorem nF(ok:M.Ok)(h:eS Fr w p (bU M a c))(hm:aK ax 2 Fr w a M.ch.ms)(toQ:Int):aH Tryz.prog 181 [.pointer (some ⟨p,0,none⟩),.int .i64 toQ] Fr w []
  (fun v L=>∃g,v=.agg (jP (jY M.ch toQ,g)).toArray∧L=[ke (jY M.ch toQ,g)]):=by
 have hl:=ok.ml
 refine TF 13 Tryz.func181 Z yn ah Z Z ?_
 refine CS (CG (VG (VO.alloc Z fun d=>?_)))
 refine aJ ?_
 refine VR ?_
 refine Yy ?_
 rintro _ _ ⟨ma,mc,rfl,rfl⟩
 refine VG (VI (LB (pv:=[(0,.int .i64 8),(11,.agg (M.ch.cells ma mc).toArray)]) ((oR M.ch).cells (ma,M.ch.ms.length,mc)) Z Z Z yn Z) ?_)
 refine VG (VI (LB (pv:=[(0,.int .i64 toQ),(1,.agg ((oR M.ch).cells (ma,M.ch.ms.length,mc)).toArray)]) (jP (jY M.ch toQ,(ma,mc))) Z Z Z yn Z) ?_)
 refine VG (VT (vs:=jP (jY M.ch toQ,(ma,mc))) (cs':=jP (jY M.ch toQ,(ma,mc))) 1 Z Z Z Z (NR _) Z Z Z ?_)
 refine aJ ?_
 exact CR (ay.cell 4 Z Z Z (aE.many 1 Z Z) (IP 0 Z ae.nil).ar ⟨(ma,mc),Z,Z⟩)
theorem nG(ok:M.Ok):(bU M a c).length=17:=by
 show(_::_::_::_::_::(mD M++ug M)).length=17
 simp[mD,ug,ok.hl,ok.wl]
theorem Oa(ok:M.Ok){k:Nat}{b:Bool}(h:M.whole[k]?=some b):(bU M a c)[11+k]?=some (.bool b):=by
 have hh:(mD M).length=6:=by simp[mD,ok.hl]
 show(_::_::_::_::_::(mD M++ug M))[11+k]?=_
 rw[show 11+k=(6+k)+1+1+1+1+1 from by omega]
 simp only[List.getElem?_cons_succ]
 rw[List.getElem?_append_right yd,hh,show 6+k-6=k from by omega,ug,ZS,h];rfl
theorem FL(ok:M.Ok){k:Nat}{b:Int}(h:M.heard[k]?=some b):(bU M a c)[5+k]?=some (.int .i64 b):=by
 have hk:=(ZP.1 h).1
 rw[ok.hl] at hk
 have hh:(mD M).length=6:=by simp[mD,ok.hl]
 show(_::_::_::_::_::(mD M++ug M))[5+k]?=_
 rw[show 5+k=k+1+1+1+1+1 from by omega]
 simp only[List.getElem?_cons_succ]
 rw[List.getElem?_append_left yd,mD,ZS,h];rfl
theorem nH(ok:M.Ok){k:Nat}(hk:k<6)(b:Bool):(bU M a c).set (11+k) (.bool b)=bU { M with whole:=M.whole.set k b } a c:=by
 have hh:(mD M).length=6:=by simp[mD,ok.hl]
 show(_::_::_::_::_::(mD M++ug M)).set (11+k) _=_::_::_::_::_::(mD M++ug { M with whole:=M.whole.set k b })
 rw[show 11+k=(6+k)+1+1+1+1+1 from by omega]
 simp only[List.set_cons_succ]
 rw[List.set_append_right _ _ yd,hh,show 6+k-6=k from by omega,ug,ug,Z_]
theorem vQ(ok:M.Ok){k:Nat}(hk:k<6)(b:Int):(bU M a c).set (5+k) (.int .i64 b)=bU { M with heard:=M.heard.set k b } a c:=by
 have hh:(mD M).length=6:=by simp[mD,ok.hl]
 show(_::_::_::_::_::(mD M++ug M)).set (5+k) _=_::_::_::_::_::(mD { M with heard:=M.heard.set k b } ++ ug M)
 rw[show 5+k=k+1+1+1+1+1 from by omega]
 simp only[List.set_cons_succ]
 rw[List.set_append_left _ _ yd,mD,mD,Z_]
theorem aC.Ok.FN(ok:M.Ok){n:Int}(h:0≤n∧n<6):∃k:Nat,n=k∧k<6∧M.whole[k]?=some (M.qE n):=by
 obtain⟨k,rfl⟩:∃k:Nat,n=k:=⟨n.toNat,by omega⟩
 refine⟨k,Z,by omega,?_⟩
 have hk:k<M.whole.length:=by rw[ok.wl];omega
 unfold aC.qE
 rw[ZU,GE hk];rfl
theorem aC.Ok.Te(ok:M.Ok){n:Int}(h:0≤n∧n<6):∃k:Nat,n=k∧k<6∧M.heard[k]?=some (M.lR n)∧0≤M.lR n∧M.lR n≤1099511627776:=by
 obtain⟨k,rfl⟩:∃k:Nat,n=k:=⟨n.toNat,by omega⟩
 have hk:k<M.heard.length:=by rw[ok.hl];omega
 have e:M.heard[k]?=some (M.lR (k:Int)):=by
  unfold aC.lR
  rw[ZU,GE hk];rfl
 exact⟨k,Z,by omega,e,ok.hr _ (ME e)⟩
theorem o9(ok:M.Ok)(h:eS Fr w p (bU M a c))(hm:aK ax 2 Fr w a M.ch.ms)(n:Int):aH Tryz.prog 109 [.pointer (some ⟨p,0,none⟩),.int .i64 n] Fr w [] (fun v L=>v=.bool (M.lz n)∧L=[]):=by
 have hl:=ok.ml
 refine TF 31 Tryz.func109 Z yn ah Z Z ?_
 refine Fe ?_
 refine VC.loop (σ:=Nat) (fun k=>[(0,pV p),(1,.int .i64 n),(11,.slice a M.ch.ms.length c),(12,.int .i64 M.ch.ms.length),(13,.int .i64 (k:Int))]) (fun _=>[]) (fun k=>k≤M.ch.ms.length∧(M.ch.ms.take k).any (fun x=>!decide (x.1=n)&&M.qE x.1)=false) (fun k=>M.ch.ms.length-k) 0
  ⟨ZO _,by rw[List.take_zero];rfl⟩ ba ER ?_
 rintro k ⟨hk,hno⟩
 refine aq ?_
 refine CP (p:=(k:Int)<M.ch.ms.length) Z (fun h1=>CK ?_) (fun h1=>CX ?_)
 rotate_left
 ·rw[List.take_of_length_le yd] at hno
  refine aq ?_
  exact CR (ay.tmp 4 Z Z ae.nil.ar ⟨by rw[aC.lz,hno],Z⟩)
 obtain⟨x,hx⟩:∃x,M.ch.ms[k]?=some x:=⟨_,GE yd⟩
 obtain⟨xb,xo,hxa,ra,rc⟩:=aK.rd (X:=⟨Tryz.prog,tab,ah,31,Fr,w⟩) hm hx
 subst hxa
 obtain⟨j,hj,hj6,hw⟩:=ok.FN (ok.mr x (ME hx))
 have next:(!decide (x.1=n)&&M.qE x.1)=false→(M.ch.ms.take (k+1)).any (fun x=>!decide (x.1=n)&&M.qE x.1)=false:=fun e=>by
  rw[ZZ,hx,List.any_append,hno];simpa using e
 refine HZ ?_
 refine H6 ?_
 refine VG (VO.alloc Z fun b6=>?_)
 refine VG (VT (vs:=ax x) (cs':=ax x) 0 Z Z Z Z (NR _) Z Z Z ?_)
 refine aq ?_
 refine CD (ts 0 13 .nil) yn yr ?_
 refine lW ?_
 by_cases h2:x.1=n
 ·refine AG (AY 21 false Z (by rw[bne_eq_false_iff_eq];exact h2) ?_)
  refine lW ?_
  refine sk ?_
  refine qT ?_
  exact⟨k+1,⟨by omega,next (by rw[DT h2];rfl)⟩,by dsimp only;omega,SC Z (SC Z (SC Z (SC Z (Sub.int Z yd (SN _))))),ae.nil.ar⟩
 refine AG (AY 21 true Z (by rw[bne_iff_ne];exact h2) ?_)
 refine lW ?_
 refine AG (AI Z (bG j Z Z Z Z Z hj yd) ?_)
 refine AG (VA.load Z Z Z (aE.aP h (v:=.bool (M.qE x.1)) (by show(bU M _ c)[11+j*1]?=_;rw[Nat.mul_one];exact Oa ok hw)) ?_)
 refine lW ?_
 refine CC Z (fun h3=>?_) (fun h3=>CK ?_)
 ·refine aq ?_
  refine CR (ay.tmp 4 Z Z ae.nil.ar ⟨?_,Z⟩)
  have:M.lz n=true:=by
   rw[aC.lz,List.any_eq_true]
   exact⟨x,ME hx,by rw[DF h2,h3];rfl⟩
  rw[this]
 refine qT ?_
 exact⟨k+1,⟨by omega,next (by rw[h3,Bool.and_false])⟩,by dsimp only;omega,SC Z (SC Z (SC Z (SC Z (Sub.int Z yd (SN _))))),ae.nil.ar⟩
theorem ko{n k b M:Nat}(h:n≤k)(hk:k*b≤M):n*b≤M:=Nat.le_trans (Nat.mul_le_mul_right b h) hk
theorem ae.last{H:HP}{L:List HP}:ae (H::L) (L ++ [H]):=ae.perm (by simpa using(List.perm_append_comm (l₁:=[H]) (l₂:=L)))
theorem mE(ok:M.Ok)(h:eS Fr w p (bU M a c))(hm:aK ax 2 Fr w a M.ch.ms):aH Tryz.prog 111 [.pointer (some ⟨p,0,none⟩)] Fr w [] (fun v L=>kK M.all v L []):=by
 have hn0:=ok.n0
 have hn1:=ok.n1
 refine TF 20 Tryz.func111 Z yn ah Z Z ?_
 refine aq ?_
 refine VC.loop (σ:=List rU×Option Addr×Nat) (fun x=>[(0,pV p),(3,.slice x.2.1 x.1.length x.2.2),(4,.int .i64 x.1.length)]) (fun x=>aI iA 30 x.2.1 x.1.length x.2.2 (flat jP x.1)::x.1.map ke) (fun x=>x.1.length≤M.nodes.toNat∧x.1.map Prod.fst=(List.range x.1.length).map fun(n:Nat)=>jY M.ch (n:Int)) (fun x=>M.nodes.toNat-x.1.length) ([],none,0)
  ⟨ZO _,rfl⟩ ba (ae.bZ ae.nil).ar ?_
 rintro⟨X,sa,sc⟩ ⟨hk,hX⟩
 dsimp only at hk hX ⊢
 refine Fe ?_
 refine CP (p:=(X.length:Int)<M.nodes) Z (fun h1=>CK ?_) (fun h1=>CX ?_)
 rotate_left
 ·refine aq ?_
  refine CR (ay.tmp 2 Z Z ER ⟨X,sa,sc,?_,Z,Z⟩)
  rw[hX,aC.all,show M.nodes.toNat=X.length from by omega]
 refine aq ?_
 refine VG (VK (Lc:=[]) (fun Fr w hF hw _=>nF Fr w ok (h.of hF hw) (hm.of hF hw) X.length) Z Z ?_)
 rintro _ _ ⟨g,rfl,rfl⟩
 refine VG (VO.buildSlice (pv:=[(0,.agg (jP (jY M.ch X.length,g)).toArray)]) (jP (jY M.ch X.length,g)) Z Z Z Z yp (bJ Z Z Z) fun sb=>?_)
 refine VG (VO.append (m:=1) (news:=jP (jY M.ch X.length,g)) 2 Z Z Z Z Z Z Z (dt.pt 0 Z Z Z) Z (ko (k:=1000) yd yp) yd fun a2 c2 hc2=>?_)
 refine qT ?_
 have hlen:(X ++ [(jY M.ch X.length,g)]).length=X.length+1:=by simp
 refine⟨(X ++ [(jY M.ch X.length,g)],a2,c2),⟨by dsimp only;omega,?_⟩,by dsimp only;omega,SC Z (SC (by dsimp only;rw[hlen];rfl) (Sub.int Z tZ (SN _))),?_⟩
 ·dsimp only
  rw[hlen,List.map_append,hX,List.range_succ,List.map_append];rfl
 ·dsimp only
  rw[hlen,bf,List.map_append]
  exact(ae.cons (ae.tl.trans ae.last)).ar
end
end Cl
namespace Cl
open Go Vg T Api Ch Rep
attribute [local irreducible] VO VC VA
def qM(p:Nat)(M:aC)(a:Option Addr)(c:Nat):List HP:=[pt p (bU M a c) qL,aI aG 2 a M.ch.ms.length c (flat ax M.ch.ms)]
def di(p:Nat)(M:aC):HP:=hex fun x:Option Addr×Nat=>cU (qM p M x.1 x.2)
theorem aW.dm(p:Nat)(M:aC):aW (ι:=Option Addr×Nat) (di p M) (fun _=>True) (fun x=>qM p M x.1 x.2):=fun w ids ⟨x,h⟩ hn=>⟨x,trivial,ids,h,hn,fun _ h=>h⟩
theorem ae.dm{p:Nat}{M:aC}{L K:List HP}(x:Option Addr×Nat)(h:ae L (qM p M x.1 x.2++K)):ae L (di p M::K):=ae.ex (f:=fun x:Option Addr×Nat=>cU (qM p M x.1 x.2)) x (ae.sep h)
theorem ae.JD{R A:List HP}:ae (R++A) A:=ae.app (M:=[]) ae.nil ae.refl
theorem kL{p:Nat}{M:aC}{a:Option Addr}{c:Nat}{A R:List HP}:ae (A++(qM p M a c++R)) (di p M::A):=
 (ae.perm List.perm_append_comm).trans (ae.dm (a,c) ((ae.of_eq (ZX _ _ _)).trans (ae.app ae.refl ae.JD)))
theorem vR{α:Type}(c:α→List Value)(x:α):flat c [x]=c x:=by simp[flat]
theorem vS{p:Nat}{M:aC}{a:Option Addr}{c:Nat}{x:rU}{sb:Nat}{R:List HP}:ae (pt sb (jP x) iA::ke x::(qM p M a c++R)) (di p M::aI iA 30 (some ⟨sb,0,none⟩) 1 1 (flat jP [x]) :: [x].map ke):=by
 rw[vR]
 exact(ae.UF (n:=1) (by rw[uu]) (ae.refl (L:=pt sb (jP x) iA::ke x::(qM p M a c++R)))).trans (kL (A:=[_,_]))
theorem gm{p:Nat}{M:aC}{a:Option Addr}{c:Nat}{R:List HP}:ae (qM p M a c++R) (di p M::aI iA 30 none 0 0 (flat jP [])::([]:List rU).map ke):=
 (ae.bZ (ae.refl (L:=qM p M a c++R))).trans (kL (A:=[aI iA 30 none 0 0 []]))
theorem mF{v:Value}{L H:List HP}(hv:v=.slice none 0 0)(hL:L=H++(aI iA 30 none 0 0 (flat jP [])::([]:List rU).map ke)):kK [] v L H:=⟨[],none,0,rfl,hv,hL⟩
theorem AV{v:Value}{L H:List HP}{x:rU}{sb:Nat}(hv:v=.slice (some ⟨sb,0,none⟩) 1 1)(hL:L=H++(aI iA 30 (some ⟨sb,0,none⟩) 1 1 (flat jP [x]) :: [x].map ke)):kK [x.1] v L H:=⟨[x],some ⟨sb,0,none⟩,1,rfl,hv,hL⟩
theorem Hn{ms:List bI}{n:Int}(h:0≤placeOf ms n):∃(i:Nat) (m:bI),placeOf ms n=i∧i<ms.length∧ms[i]?=some m∧m.1=n:=by
 rcases gv ms n with e | h
 ·omega
 ·exact h
theorem WG{c:dO}{n:Int}(h:dh c n=0):0≤placeOf c.ms n∧c.ms.length≠1:=by
 unfold dh at h
 by_cases p:placeOf c.ms n<0
 ·rw[if_pos p] at h;exact absurd h yp
 ·refine⟨by omega,fun e=>?_⟩
  rw[if_neg p,if_pos e] at h;exact absurd h yp
theorem Ph{c:dO}{n:Int}(h:(dL c n).2=0):cm c=0∧dh c n=0∧dL c n=(⟨c.al+1,c.ms.eraseIdx (placeOf c.ms n).toNat,if c.drain=n then -1 else c.drain⟩,0):=by
 unfold dL at h ⊢
 by_cases h1:cm c≠0
 ·rw[if_pos h1] at h;exact absurd h yp
 rw[if_neg h1] at h ⊢
 by_cases h2:dh c n≠0
 ·rw[if_pos h2] at h;exact absurd h h2
 rw[if_neg h2]
 exact⟨Classical.not_not.1 h1,Classical.not_not.1 h2,Z⟩
theorem Tf{c:dO}{n:Int}(h:(fN c n).2=0):cm c=0∧pW n=true∧placeOf c.ms n<0∧fN c n=(⟨c.al+1,c.ms ++ [(n,c.al+1)],c.drain⟩,0):=by
 unfold fN at h ⊢
 by_cases h1:cm c≠0
 ·rw[if_pos h1] at h;exact absurd h yp
 rw[if_neg h1] at h ⊢
 by_cases h2:pW n=false
 ·rw[if_pos h2] at h;exact absurd h yp
 rw[if_neg h2] at h ⊢
 by_cases h3:0≤placeOf c.ms n
 ·rw[if_pos h3] at h;exact absurd h yp
 rw[if_neg h3]
 exact⟨Classical.not_not.1 h1,by simpa using h2,by omega,Z⟩
theorem Tg{c:dO}{n:Int}(h:(ft c n).2=0):cm c=0∧dh c n=0∧c.drain=-1∧ft c n=(⟨c.al+1,c.ms,n⟩,0):=by
 unfold ft at h ⊢
 by_cases h1:cm c≠0
 ·rw[if_pos h1] at h;exact absurd h yp
 rw[if_neg h1] at h ⊢
 by_cases h2:dh c n≠0
 ·rw[if_pos h2] at h;exact absurd h h2
 rw[if_neg h2] at h ⊢
 by_cases h3:c.drain≠-1
 ·rw[if_pos h3] at h;exact absurd h yp
 rw[if_neg h3]
 exact⟨Classical.not_not.1 h1,Classical.not_not.1 h2,Classical.not_not.1 h3,Z⟩
theorem aC.Ok.place{M:aC}(ok:M.Ok){n:Int}(h:0≤placeOf M.ch.ms n):0≤n∧n<6:=by
 obtain⟨i,m,_,_,h2,rfl⟩:=Hn h
 exact ok.mr m (ME h2)
theorem aC.Ok.gone{M:aC}(ok:M.Ok){n:Int}(h:M.ue n=0):(M.gone n).Ok:=by
 obtain⟨_,_,e⟩:=Ph h
 have e1:(M.gone n).ch=⟨M.ch.al+1,M.ch.ms.eraseIdx (placeOf M.ch.ms n).toNat,if M.ch.drain=n then -1 else M.ch.drain⟩:=by show(dL M.ch n).1=_;rw[e]
 refine⟨ok.n0,ok.n1,ok.p0,ok.p1,?_,?_,ok.hl,by show(M.whole.set _ _).length=6;rw[Z4,ok.wl],ok.hr⟩
 ·rw[e1];exact Nat.le_trans (List.length_eraseIdx_le _ _) ok.ml
 ·rw[e1];exact fun x hx=>ok.mr x (List.mem_of_mem_eraseIdx hx)
theorem aC.Ok.out{M:aC}(ok:M.Ok)(n:Int):(M.out n).Ok:=by
 unfold aC.out
 split
 ·exact ok
 ·rename_i h;exact ok.gone (Classical.not_not.1 h)
theorem kg(n:Int):0≤cw n∧cw n≤1099511627776:=by unfold cw;omega
theorem aC.Ok.cW{M:aC}(ok:M.Ok)(n now:Int):(M.cW n now).Ok:=
 ⟨ok.n0,ok.n1,ok.p0,ok.p1,ok.ml,ok.mr,by show(M.heard.set _ _).length=6;rw[Z4,ok.hl],ok.wl,fun x hx=>by
  rcases List.mem_or_eq_of_mem_set hx with h | h
  ·exact ok.hr x h
  ·rw[h];exact kg now⟩
theorem aC.Ok.wholeAt{M:aC}(ok:M.Ok)(n:Int):(M.wholeAt n).Ok:=
 ⟨ok.n0,ok.n1,ok.p0,ok.p1,ok.ml,ok.mr,ok.hl,by show(M.whole.set _ _).length=6;rw[Z4,ok.wl],ok.hr⟩
theorem aC.Ok.take{M:aC}(ok:M.Ok)(from_:Int)(f:aa)(now:Int):(M.take from_ f now).1.Ok:=by
 unfold aC.take
 split
 ·exact ok
 split
 ·exact ok
 split
 ·split
  ·exact ok.cW _ _
  split
  ·exact(ok.cW _ _).wholeAt _
  ·exact ok.cW _ _
 split
 ·split
  ·exact ok
  split<;>exact ok
 split
 ·split
  ·rename_i h;exact ok.gone h.2.2
  ·exact ok
 ·exact ok
section
variable {p:Nat} {M:aC}
theorem s4(ok:M.Ok)(n:Int):aH Tryz.prog 110 [.pointer (some ⟨p,0,none⟩),.int .i64 n] Fr w [di p M] (fun v L=>v=.int .i64 (M.ue n)∧L=[di p (M.out n)]):=by
 have hl:=ok.ml
 refine TF 28 Tryz.func110 Z yn ah Z Z ?_
 refine R7 ?_
 rintro⟨a,c⟩ -
 show VC _ _ _ (qM p M a c) _
 unfold qM
 refine an ?_
 refine R8 ?_
 refine an ?_
 refine VG (VK (Lc:=[]) (fun Fr w hF hw hS=>AU Fr w (c:=M.ch) (aK.aI aF (hS.at_ 1 Z)) yd n) Z Z ?_)
 rintro _ _ ⟨wa,wc,rfl,rfl⟩
 refine aJ ?_
 refine VG (VO.alloc Z fun b5=>?_)
 refine VG (VT (vs:=(dL M.ch n).1.cells wa wc) (cs':=(dL M.ch n).1.cells wa wc) 0 Z Z Z Z (NR _) Z Z Z ?_)
 refine aJ ?_
 refine VC.bo Z (fun he=>?_) (fun he=>CK ?_)
 ·refine aJ ?_
  exact CR (ay.tmp 4 Z Z (ae.dm (a,c) (IP 2 Z (IP 2 Z ae.nil))).ar ⟨rfl,by rw[aC.out,if_pos (show M.ue n≠0 from he)]⟩)
 obtain⟨hf,hlv,hW⟩:=Ph he
 obtain⟨k,hk,hk6,_⟩:=ok.FN (ok.place (WG hlv).1)
 have ok1:=ok.gone he
 refine aJ ?_
 refine VG (VL 0 ((dL M.ch n).1.cells wa wc) Z Z Z Z ?_)
 refine aJ ?_
 refine VG (VT (vs:=(dL M.ch n).1.cells wa wc) (cs':=bU { M with ch:=(dL M.ch n).1 } wa wc) 2 Z Z Z Z UL Z Z Z ?_)
 refine aJ ?_
 have ok2:({ M with ch:=(dL M.ch n).1 }:aC).Ok:=⟨ok1.n0,ok1.n1,ok1.p0,ok1.p1,ok1.ml,ok1.mr,ok.hl,ok.wl,ok.hr⟩
 have hg:bU (M.gone n) wa wc=bU { ({ M with ch:=(dL M.ch n).1 }:aC) with whole:=M.whole.set k false } wa wc:=by rw[aC.gone,show n.toNat=k from by omega]
 refine VG (VI (bG k Z Z Z Z Z hk hk6) ?_)
 refine VG (VO.st 2 (cs':=bU (M.gone n) wa wc) Z Z Z Z (by show 0+11+k*1<_;rw[nG ok2];omega) (by rw[hg,←nH ok2 hk6];show _=(bU _ wa wc).set (11+k) _;rw[show 11+k=0+11+k*1 from by omega];rfl) Z ?_)
 refine aJ ?_
 exact CR (ay.int 4 Z Z he.symm (ae.dm (M:=M.gone n) (wa,wc) (IP 2 Z (IP 1 Z ae.nil))).ar ⟨rfl,by rw[aC.out,if_neg (by rw[show M.ue n=0 from he];decide)]⟩)
end
end Cl
namespace Cl
open Go Vg T Api Ch Rep Rd
attribute [local irreducible] VO VC VA
section
variable {p:Nat} {M:aC}
theorem aC.CI{n:Int}(ok:M.Ok)(h:M.isNode n=true):0≤n∧n<6:=by
 have:=ok.n1
 unfold aC.isNode at h
 simp only[Z2,decide_eq_true_eq] at h
 omega
theorem ED(ok:M.Ok)(from_:Int)(f:aa)(g:kQ)(now:Int):aH Tryz.prog 185 [.pointer (some ⟨p,0,none⟩),.int .i64 from_,.agg (f.cells g).toArray,.int .i64 now] Fr w [di p M]
  (fun v L=>kK (M.take from_ f now).2 v L [di p (M.take from_ f now).1]):=by
 have hl:=ok.ml
 unfold aC.take
 refine TF 112 Tryz.func185 Z yn ah Z Z ?_
 refine CS (CG (VG (VB (vs:=f.cells g) Z fun fb=>VG (VN ?_))))
 refine VC.e_ 1 Z (aW.dm p M) ?_
 rintro⟨a,c⟩ -
 show VC _ _ _ [pt p (bU M a c) qL,aI aG 2 a M.ch.ms.length c (flat ax M.ch.ms),pt fb (f.cells g) hZ] _
 refine aq ?_
 refine R9 ?_
 refine O0 ?_
 refine sj ?_
 refine CE Z (fun k7=>?_) (fun k7=>CK ?_)
 ·rw[if_pos k7]
  refine aq ?_
  refine Yz ?_
  rintro _ _ ⟨y,rfl,rfl⟩
  refine VG (VO.buildSlice (pv:=[(0,.agg (jP (jY M.ch from_,y)).toArray)]) (jP (jY M.ch from_,y)) Z Z Z Z yp (bJ Z Z Z) fun sb=>?_)
  refine aq ?_
  exact YA
 rw[if_neg k7]
 refine aq ?_
 refine VG (VV (fun Fr w hF hw hS=>rW Fr w (hS.aP 0 Z) from_) Z ?_)
 refine aq ?_
 refine VC.dX Z (fun hn=>?_) (fun hn=>CK ?_)
 ·rw[if_pos hn]
  refine aq ?_
  exact Ru
 rw[if_neg (by rw[hn];decide)]
 obtain⟨j,hj,hj6,hwj⟩:=ok.FN (aC.CI ok hn)
 refine aq ?_
 refine CD (ts 0 9 .nil) yn yr ?_
 refine sn ?_
 refine sj ?_
 refine CE Z (fun k11=>?_) (fun k11=>?_)
 ·rw[if_pos k11]
  refine aq ?_
  refine CD (ts 0 3 (ts 4 2 (.only 3 (.take 6 (.only 7 .nil))))) yn yr ?_
  refine jo ?_
  refine AG (AR (fun Fr w hF hs hS=>nE Fr w now) Z Z yu ?_)
  refine VS ?_
  refine AG (VA.st 0 (cs':=bU (M.cW from_ now) a c) Z Z Z Z Z (by show 0+5+j*1<_;rw[nG ok];omega) (by rw[aC.cW,show from_.toNat=j from by omega,←vQ ok hj6];show(bU M a c).set (0+5+j*1) _=_;rw[show 0+5+j*1=5+j from by omega]) Z yu ?_)
  have ok1:=ok.cW from_ now
  refine jo ?_
  show VC _ _ _ [pt p (bU (M.cW from_ now) a c) qL,aI aG 2 a (M.cW from_ now).ch.ms.length c (flat ax (M.cW from_ now).ch.ms),pt fb (f.cells g) hZ] _
  refine aq ?_
  by_cases he:f.al=M.ch.al
  rotate_left
  ·rw[if_pos he]
   refine VC.dX (t:=false) Xs (fun _=>?_) (fun e=>Bool.noConfusion e)
   refine aq ?_
   refine VG (VK (Lc:=[]) (fun Fr w hF hw hS=>nF (M:=M.cW from_ now) Fr w ok1 (hS.aP 0 Z) (aK.aI aF (hS.at_ 1 Z)) from_) Z Z ?_)
   rintro _ _ ⟨y,rfl,rfl⟩
   refine VG (VO.buildSlice (pv:=[(0,.agg (jP (jY (M.cW from_ now).ch from_,y)).toArray)]) (jP (jY (M.cW from_ now).ch from_,y)) Z Z Z Z yp (bJ Z Z Z) fun sb=>?_)
   refine aq ?_
   exact CR (ay.tmp 8 Z Z (vS (M:=M.cW from_ now) (a:=a) (c:=c) (R:=[_])).ar (AV (x:=(jY M.ch from_,y)) Z Z))
  rw[if_neg (fun h=>h he)]
  refine VC.dX (t:=true) (by rw[←beq_iff_eq.2 he];rfl) (fun e=>Bool.noConfusion e) (fun _=>CK ?_)
  have hsn:a7 (M.cW from_ now).ch from_=a7 M.ch from_:=rfl
  refine sj ?_
  by_cases hi:f.index=1
  rotate_left
  ·rw[if_neg (fun h=>hi h.1)]
   refine VG (VY 53 false Z (beq_eq_false_iff_ne.2 hi) ?_)
   refine aJ ?_
   refine Gg ?_
   exact YB
  refine VG (VY 53 true Z (beq_iff_eq.2 hi) ?_)
  refine aJ ?_
  refine VG (VV (fun Fr w hF hw hS=>rX (M:=M.cW from_ now) Fr w ok1 (hS.aP 0 Z) (aK.aI aF (hS.at_ 1 Z)) from_) Z ?_)
  refine aJ ?_
  refine CC Z (fun hm=>?_) (fun hm=>CK ?_)
  ·rw[if_pos ⟨hi,hm⟩]
   refine aq ?_
   refine VG (VI (bG j Z Z Z Z Z hj hj6) ?_)
   refine VG (VO.st 0 (cs':=bU ((M.cW from_ now).wholeAt from_) a c) Z Z Z Z (by show 0+11+j*1<_;rw[nG ok1];omega) (by rw[aC.wholeAt,show from_.toNat=j from by omega,←nH ok1 hj6];show(bU (M.cW from_ now) a c).set (0+11+j*1) _=_;rw[show 0+11+j*1=11+j from by omega]) Z ?_)
   refine aq ?_
   exact CR (ay.tmp 8 Z Z (gm (M:=(M.cW from_ now).wholeAt from_) (a:=a) (c:=c) (R:=[_])).ar (mF Z Z))
  ·rw[if_neg (fun h=>by rw[hsn] at hm;rw[hm] at h;cases h.2)]
   refine aq ?_
   exact YB
 rw[if_neg k11]
 refine aq ?_
 refine CE Z (fun k9=>?_) (fun k9=>?_)
 ·rw[if_pos k9]
  refine aq ?_
  by_cases he:f.al=M.ch.al
  rotate_left
  ·rw[if_pos he]
   refine VC.dX (t:=false) Xs (fun _=>?_) (fun e=>Bool.noConfusion e)
   refine aq ?_
   refine Yz ?_
   rintro _ _ ⟨y,rfl,rfl⟩
   refine VG (VO.buildSlice (pv:=[(0,.agg (jP (jY M.ch from_,y)).toArray)]) (jP (jY M.ch from_,y)) Z Z Z Z yp (bJ Z Z Z) fun sb=>?_)
   refine aq ?_
   exact YA
  rw[if_neg (fun h=>h he)]
  refine VC.dX (t:=true) (by rw[←beq_iff_eq.2 he];rfl) (fun e=>Bool.noConfusion e) (fun _=>CK ?_)
  refine aq ?_
  refine R8 ?_
  refine VG (VV (fun Fr w hF hw hS=>l9 Fr w (c:=M.ch) (aK.aI aF (hS.at_ 1 Z)) yd) Z ?_)
  refine aq ?_
  refine CE Z (fun ht=>?_) (fun ht=>CK ?_)
  ·rw[if_pos ht]
   refine sj ?_
   refine VG (VI (LB (pv:=[(0,.int .i64 10),(1,.int .i64 f.al),(12,.int .i64 f.index)]) ((nW f.al f.index).cells (none,0,0)) Z Z Z yn Z) ?_)
   refine VG (VO.alloc Z fun b10=>?_)
   refine VG (VT (vs:=(nW f.al f.index).cells (none,0,0)) (cs':=(nW f.al f.index).cells (none,0,0)) 0 Z Z Z Z (NR _) Z Z Z ?_)
   refine aq ?_
   refine VG (VL 0 ((nW f.al f.index).cells (none,0,0)) Z Z Z Z ?_)
   refine VG (VI (LB (pv:=[(0,.int .i64 from_),(1,.agg ((nW f.al f.index).cells (none,0,0)).toArray)]) (jP ((from_,nW f.al f.index,[]),(none,0))) Z Z Z yn Z) ?_)
   refine VG (VO.buildSlice (pv:=[(0,.agg (jP ((from_,nW f.al f.index,[]),(none,0))).toArray)]) (jP ((from_,nW f.al f.index,[]),(none,0))) Z Z Z Z yp (bJ Z Z Z) fun sb=>?_)
   refine aq ?_
   refine CR (ay.tmp 8 Z Z ?_ (AV (x:=((from_,nW f.al f.index,[]),(none,0))) (sb:=sb) Z Z))
   refine ae.ar (ae.trans (M:=pt sb (jP ((from_,nW f.al f.index,[]),(none,0))) iA::ke ((from_,nW f.al f.index,[]),(none,0))::(qM p M a c ++ [])) ?_ vS)
   exact IP 0 Z (ae.bZ (dF [1,1]))
  ·rw[if_neg ht]
   refine aq ?_
   exact Ru
 rw[if_neg k9]
 refine aq ?_
 refine CE Z (fun k12=>?_) (fun k12=>CK ?_)
 rotate_left
 ·rw[if_neg k12]
  refine aq ?_
  exact Ru
 rw[if_pos k12]
 refine aq ?_
 by_cases he:f.al=M.ch.al
 rotate_left
 ·rw[if_neg (fun h=>he h.1.1)]
  refine VG (VY 90 false Z (beq_eq_false_iff_ne.2 he) ?_)
  refine aJ ?_
  refine VG (VY 99 false Z Z ?_)
  refine aJ ?_
  refine VG (VY 104 false Z Z ?_)
  refine aJ ?_
  refine Gg ?_
  exact Ru
 refine VG (VY 90 true Z (beq_iff_eq.2 he) ?_)
 refine pQ ?_
 by_cases hd:M.ch.drain=from_
 rotate_left
 ·rw[if_neg (fun h=>hd h.1.2)]
  refine VG (VY 99 false Z (beq_eq_false_iff_ne.2 hd) ?_)
  refine aJ ?_
  refine VG (VY 104 false Z Z ?_)
  refine aJ ?_
  refine Gg ?_
  exact Ru
 refine VG (VY 99 true Z (beq_iff_eq.2 hd) ?_)
 refine aJ ?_
 refine VG (VV (fun Fr w hF hw hS=>o9 Fr w ok (hS.aP 0 Z) (aK.aI aF (hS.at_ 1 Z)) from_) Z ?_)
 refine aJ ?_
 cases hg:M.lz from_ with
 | false=>
  rw[if_neg (fun h=>Bool.noConfusion h.2.1)]
  refine VG (VY 104 false Z Z ?_)
  refine aJ ?_
  refine Gg ?_
  exact Ru
 | true=>
 refine VG (VY 104 true Z Z ?_)
 refine aJ ?_
 refine VO.ar (L':=[di p M] ++ [pt fb (f.cells g) hZ]) (ae.dm (a,c) (dF [0,0,0])).ar ?_
 refine VG (VK (Lc:=[di p M]) (fun Fr w hF hw hS=>s4 Fr w ok from_) Z Z ?_)
 rintro _ _ ⟨rfl,rfl⟩
 refine aJ ?_
 refine CE Z (fun ho=>?_) (fun ho=>CK ?_)
 ·rw[if_pos ⟨⟨he,hd⟩,rfl,ho⟩]
  have hout:M.out from_=M.gone from_:=by rw[aC.out,if_neg (by rw[ho];decide)]
  rw[hout]
  have ok1:=ok.gone ho
  refine VC.e_ 0 Z (aW.dm p (M.gone from_)) ?_
  rintro⟨a1,c1⟩ -
  show VC _ _ _ [pt p (bU (M.gone from_) a1 c1) qL,aI aG 2 a1 (M.gone from_).ch.ms.length c1 (flat ax (M.gone from_).ch.ms),pt fb (f.cells g) hZ] _
  refine aq ?_
  refine VG (VK (Lc:=[]) (fun Fr w hF hw hS=>mE (M:=M.gone from_) Fr w ok1 (hS.aP 0 Z) (aK.aI aF (hS.at_ 1 Z))) Z Z ?_)
  rintro _ _ ⟨X,sa,sc,hX,rfl,rfl⟩
  refine aq ?_
  exact CR (ay.tmp 8 Z Z (kL (p:=p) (M:=M.gone from_) (a:=a1) (c:=c1) (R:=[_])).ar ⟨X,sa,sc,hX,Z,Z⟩)
 ·rw[if_neg (fun h=>ho h.2.2)]
  have hout:M.out from_=M:=by rw[aC.out,if_pos ho]
  rw[hout]
  refine aq ?_
  exact CR (ay.tmp 8 Z Z ((ae.bZ (ae.refl (L:=[di p M,pt fb (f.cells g) hZ]))).trans (IP 1 Z (IP 0 Z ae.nil))).ar (mF Z Z))
end
end Cl
namespace Cl
open Go Vg T Api Ch Rep Rd
attribute [local irreducible] VO VC VA
def yL(S:List n_)(e:Int)(v:Value)(L:List HP)(H:List HP):Prop:=∃(X:List rU) (a:Option Addr) (c:Nat),X.map Prod.fst=S∧v=.tuple #[.slice a X.length c,.int .i64 e]∧L=H++(aI iA 30 a X.length c (flat jP X)::X.map ke)
theorem gK{v:Value}{e:Int}{L H:List HP}(hv:v=.tuple #[.slice none 0 0,.int .i64 e])(hL:L=H++(aI iA 30 none 0 0 (flat jP [])::([]:List rU).map ke)):yL [] e v L H:=⟨[],none,0,rfl,hv,hL⟩
theorem yM{X:Cx}{e:Env}{T:TypeId}{x:Operand}{xs:Array Value}{fs:Array Field}{g:Field}{f:Nat}{v:Value}(hT:X.P.underlying T=some (.struct fs))(hx:ev e x=some (.agg xs))(hf:fs[f]?=some g)
  (hp:∀w:World,(part g.type xs g.offset).run X.P w=.ok v w):cY X (.field T x f) e v:=by
 intro a ha dst ty pos after guard w
 have h:(Instr.field T (.agg xs) f).run X.P w=.ok v w:=by
  simp[Instr.field,run_underlying hT,hf,asAgg,hp w]
 simp[execOp,ha.ev hx,h]
section
variable {p:Nat} {M:aC}
theorem aE.dm{X:Cx}{L:List HP}{ti:TI}{M:aC}{off:Nat}{v:Value}(i:Nat)(hL:L[i]?=some (di p M))(hv:∀a c,(bU M a c)[off]?=some v)(ha:ti.aU.agg=false:=by rfl):aE X L ti p off v:=fun w hw=>by
 obtain⟨F,hs,_,_⟩:=hw.sat
 obtain⟨ids,hid,_⟩:=dM.get hs hL
 obtain⟨x,i1,G,_,h1,_⟩:=hid
 rw[ha];exact zw h1.2 (hv _ _)
theorem Ob(M:aC)(n:Int):(M.out n).bu=M.bu:=by unfold aC.out;split<;>rfl
theorem CJ{now:Int}:∀(l:List bI) (x:aC×Bool),x.1.Ok→(aC.watch now l x).1.Ok
 | [],x,h=>h
 | y::l,x,h=>by
  rw[aC.watch]
  refine CJ l _ ?_
  split
  ·rename_i hl
   simp only[aC.late,Z2,decide_eq_true_eq] at hl
   exact h.gone hl.2.2
  ·exact h
theorem aC.Ok.tick(ok:M.Ok)(now:Int):(M.tick now).1.Ok:=CJ _ _ ok
theorem EE(ok:M.Ok)(now:Int):aH Tryz.prog 62 [.pointer (some ⟨p,0,none⟩),.int .i64 now] Fr w [di p M]
  (fun v L=>kK (M.tick now).2 v L [di p (M.tick now).1]):=by
 have hl:=ok.ml
 have htk:=kg now
 unfold aC.tick
 generalize htn:cw now=tn at htk
 refine TF 56 Tryz.func62 Z yn ah Z Z ?_
 refine R7 ?_
 rintro⟨a,c⟩ -
 show VC _ _ _ [pt p (bU M a c) qL,aI aG 2 a M.ch.ms.length c (flat ax M.ch.ms)] _
 refine aq ?_
 refine R9 ?_
 refine Ff ?_
 refine VG (VV (fun Fr w hF hw hS=>nE Fr w now) Z ?_)
 rw[htn]
 refine aq ?_
 refine R8 ?_
 refine VG (VK (Lc:=[]) (fun Fr w hF hw hS=>rV Fr w (c:=M.ch) (aK.aI aF (hS.at_ 1 Z)) yd) Z Z ?_)
 rintro _ _ ⟨ca,cc,rfl,rfl⟩
 refine aq ?_
 refine VG (VI (yM (v:=.slice ca M.ch.ms.length cc) Tryz.underlying105 Z Z (fun w=>pU (nM.look ah (t:=103) (ti:=T.t103) Z) Z Z w)) ?_)
 refine aq ?_
 have hml:=ok.ml
 have hmr:=ok.mr
 generalize hms:M.ch.ms=ms at hml hmr
 refine VC.e_ 0 Z (aW.rl aG ca cc ms aF) ?_
 rintro⟨ra,rc,rb,rcs,rxs⟩ ⟨rok,rv,rx⟩
 dsimp only at rx
 subst rx
 injection rv with e1 _ e3
 subst e1 e3
 refine VC.loop (σ:=Nat×aC×Bool) (fun x=>[(0,pV p),(1,.int .i64 tn),(18,.slice ra rxs.length rc),(19,.int .i64 rxs.length),(20,.int .i64 (x.1:Int)),(5,.bool x.2.2)]) (fun x=>[RL.h aG ⟨ra,rc,rb,rcs,rxs⟩,di p x.2.1])
  (fun x=>x.1≤rxs.length∧x.2.1.Ok∧aC.watch tn (rxs.drop x.1) x.2=aC.watch tn rxs (M,false)) (fun x=>rxs.length-x.1) (0,M,false)
  ⟨ZO _,ok,rfl⟩ ba ?_ ?_
 ·refine(IP 0 Z (ae.dm (a,c) ?_)).ar
  unfold qM
  rw[hms]
  exact ae.refl
 rintro⟨k,M1,b⟩ ⟨hk,ok1,hW⟩
 dsimp only at hk ok1 hW ⊢
 refine aq ?_
 refine CP (p:=(k:Int)<rxs.length) Z (fun h1=>CK ?_) (fun h1=>CX ?_)
 rotate_left
 ·rw[List.drop_of_length_le yd] at hW
  rw[←hW]
  show VC _ _ _ _ _
  dsimp only[aC.watch]
  refine aq ?_
  cases b with
  | false=>
   refine RF ?_
   exact CR (ay.tmp 4 Z Z ((ae.bZ (ae.refl (L:=[RL.h aG ⟨ra,rc,rb,rcs,rxs⟩,di p M1]))).trans (IP 2 Z (IP 0 Z ae.nil))).ar (mF Z Z))
  | true=>
   refine sk ?_
   refine VC.e_ 1 Z (aW.dm p M1) ?_
   rintro⟨a1,c1⟩ -
   show VC _ _ _ [pt p (bU M1 a1 c1) qL,aI aG 2 a1 M1.ch.ms.length c1 (flat ax M1.ch.ms),RL.h aG ⟨ra,rc,rb,rcs,rxs⟩] _
   refine aq ?_
   refine VG (VK (Lc:=[]) (fun Fr w hF hw hS=>mE (M:=M1) Fr w ok1 (hS.aP 0 Z) (aK.aI aF (hS.at_ 1 Z))) Z Z ?_)
   rintro _ _ ⟨X,sa,sc,hX,rfl,rfl⟩
   refine aq ?_
   exact CR (ay.tmp 4 Z Z (kL (p:=p) (M:=M1) (a:=a1) (c:=c1) (R:=[_])).ar ⟨X,sa,sc,hX,Z,Z⟩)
 obtain⟨x,hx⟩:∃x,rxs[k]?=some x:=⟨_,GE yd⟩
 have hdr:rxs.drop k=x::rxs.drop (k+1):=by
  obtain⟨g1,g2⟩:=ZP.1 hx
  rw[List.drop_eq_getElem_cons g1,g2]
 rw[hdr,aC.watch] at hW
 obtain⟨j,hj,hj6,hh,hh0,hh1⟩:=ok1.Te (hmr x (ME hx))
 have hp0:=ok1.p0
 have hp1:=ok1.p1
 obtain⟨tb,tof,htb,hta,hrd⟩:=RL.Ok.ld (t:=aG) (k:=k) (x:=x) rok hx (aF x)
 dsimp only at hta
 subst hta
 refine VC.e_ 1 Z (aW.dm p M1) ?_
 rintro⟨a1,c1⟩ -
 show VC _ _ _ [pt p (bU M1 a1 c1) qL,aI aG 2 a1 M1.ch.ms.length c1 (flat ax M1.ch.ms),RL.h aG ⟨some ⟨tb,tof,none⟩,rc,rb,rcs,rxs⟩] _
 refine CS (VC.cq (σ:=aC×Bool) (fun x=>[(0,pV p),(1,.int .i64 tn),(18,.slice (some ⟨tb,tof,none⟩) rxs.length rc),(19,.int .i64 rxs.length),(20,.int .i64 (k:Int)),(5,.bool x.2)]) (fun x=>[RL.h aG ⟨some ⟨tb,tof,none⟩,rc,rb,rcs,rxs⟩,di p x.1]) (fun y=>y.1.Ok∧y=if M1.late tn x.1 then (M1.gone x.1,true) else (M1,b)) ?_ ?_)
 rotate_left
 ·rintro⟨M2,b2⟩ ⟨ok2,hy⟩
  refine qT ?_
  exact⟨(k+1,M2,b2),⟨by omega,ok2,by dsimp only;rw[hy];exact hW⟩,by dsimp only;omega,SC Z (SC Z (SC Z (SC Z (Sub.int Z tZ ba)))),ER⟩
 refine HZ ?_
 refine VG (VO.load Z Z ((hrd 2 Z).1 _ Z Z) ?_)
 refine VG (VO.alloc Z fun b7=>?_)
 refine VG (VT (vs:=ax x) (cs':=ax x) 0 Z Z Z Z (NR _) Z Z Z ?_)
 refine aq ?_
 refine CD (ts 0 18 (.only 18 (ts 19 5 (.only 24 (ts 25 2 .nil))))) yn yr ?_
 refine Gf ?_
 refine VS ?_
 have hcell:(bU M1 a1 c1)[0+5+j*1]?=some (.int .i64 (M1.lR x.1)):=by rw[show 0+5+j*1=5+j from by omega];exact FL ok1 hh
 refine AG (VA.ld 1 Z Z Z Z hcell ?_)
 refine Rm ?_
 refine Gf ?_
 by_cases g1:M1.bu<tn-M1.lR x.1
 rotate_left
 ·refine AG (AY 38 false Z (DF g1) ?_)
  refine Gf ?_
  refine HX ?_
  refine Gf ?_
  refine AG (AY 44 false Z Z ?_)
  refine Gf ?_
  refine HX ?_
  refine Gf ?_
  refine sk ?_
  exact⟨(M1,b),⟨ok1,by rw[if_neg];rw[aC.late,DF g1,Bool.false_and];exact Bool.false_ne_true⟩,ba,(IP 3 Z (ae.dm (a1,c1) (dF [1,1]))).ar⟩
 refine AG (AY 38 true Z (DT g1) ?_)
 refine Gf ?_
 refine AG (AR (fun Fr w hF hw hS=>o9 Fr w ok1 (hS.aP 1 Z) (aK.aI aF (hS.at_ 2 Z)) x.1) Z Z (by(try refine Pd.st ?_);(repeat(first|exact Pd.nil|exact Pd.fnil|refine Pd.inner ?_|refine Pd.skip yr ?_|refine zf (zo 0 Z Z) ?_|refine zf (zo 1 Z Z) ?_|refine zf (zm 0 Z Z) ?_|refine zf (zm 1 Z Z) ?_|refine zf (aE.aP (aE.one 1 Z hcell) Z) ?_|refine zf ((aE.one 1 Z hcell)) ?_|refine zc (zo 0 Z Z) ?_|refine zc (zo 1 Z Z) ?_|refine zc (zm 0 Z Z) ?_|refine zc (zm 1 Z Z) ?_|refine zc (aE.aP (aE.one 1 Z hcell) Z) ?_|refine zc ((aE.one 1 Z hcell)) ?_))) ?_)
 refine Gf ?_
 cases g2:M1.lz x.1 with
 | false=>
  refine AG (AY 44 false Z Z ?_)
  refine Gf ?_
  refine HX ?_
  refine Gf ?_
  refine sk ?_
  exact⟨(M1,b),⟨ok1,by rw[if_neg];rw[aC.late,g2,Bool.false_and,Bool.and_false];exact Bool.false_ne_true⟩,ba,(IP 3 Z (ae.dm (a1,c1) (dF [1,1]))).ar⟩
 | true=>
 refine AG (AY 44 true Z Z ?_)
 refine Gf ?_
 refine VA.ar (L':=[di p M1] ++ [RL.h aG ⟨some ⟨tb,tof,none⟩,rc,rb,rcs,rxs⟩,pt b7 (ax x) aG]) (ae.dm (a1,c1) (dF [1,1,1,0])).ar ?_
 have ok2:=ok1.out x.1
 have hh2:(M1.out x.1).heard[j]?=some (M1.lR x.1):=by unfold aC.out;split<;>exact hh
 have q7:∀a c,(bU (M1.out x.1) a c)[0+5+j*1]?=some (.int .i64 (M1.lR x.1)):=fun a c=>by rw[show 0+5+j*1=5+j from by omega];exact FL ok2 hh2
 have q12:∀a c,(bU (M1.out x.1) a c)[1]?=some (.int .i64 M1.bu):=fun a c=>by rw[←Ob M1 x.1];rfl
 refine AG (AO (OC (Lc:=[di p M1]) (Lr:=[RL.h aG ⟨some ⟨tb,tof,none⟩,rc,rb,rcs,rxs⟩,pt b7 (ax x) aG]) rfl (.refl _) (fun Fr w hF hw hS=>s4 Fr w ok1 x.1)) rfl (fun v L' g=>by obtain⟨_,⟨rfl,rfl⟩,rfl⟩:=g;exact(by(try refine Pd.st ?_);(repeat(first|exact Pd.nil|exact Pd.fnil|refine Pd.inner ?_|refine Pd.skip yr ?_|refine zf (zo 0 rfl rfl) ?_|refine zf (zo 1 rfl rfl) ?_|refine zf (zo 2 rfl rfl) ?_|refine zf (zm 0 rfl rfl) ?_|refine zf (zm 1 rfl rfl) ?_|refine zf (zm 2 rfl rfl) ?_|refine zf (aE.aP (aE.dm 0 rfl q7) rfl) ?_|refine zf (aE.aP (aE.dm 0 rfl q12) rfl) ?_|refine zf ((aE.dm 0 rfl q7)) ?_|refine zf ((aE.dm 0 rfl q12)) ?_|refine zc (zo 0 rfl rfl) ?_|refine zc (zo 1 rfl rfl) ?_|refine zc (zo 2 rfl rfl) ?_|refine zc (zm 0 rfl rfl) ?_|refine zc (zm 1 rfl rfl) ?_|refine zc (zm 2 rfl rfl) ?_|refine zc (aE.aP (aE.dm 0 rfl q7) rfl) ?_|refine zc (aE.aP (aE.dm 0 rfl q12) rfl) ?_|refine zc ((aE.dm 0 rfl q7)) ?_|refine zc ((aE.dm 0 rfl q12)) ?_)))) ?_)
 rintro _ _ ⟨_,⟨rfl,rfl⟩,rfl⟩
 refine nY ?_
 refine CE Z (fun ho=>?_) (fun ho=>CK ?_)
 ·have hout:M1.out x.1=M1.gone x.1:=by rw[aC.out,if_neg (by rw[ho];decide)]
  rw[hout]
  refine aq ?_
  exact⟨(M1.gone x.1,true),⟨ok1.gone ho,by rw[if_pos];rw[aC.late,DT g1,g2,DT ho];rfl⟩,ba,(dF [1,0]).ar⟩
 ·have hout:M1.out x.1=M1:=by rw[aC.out,if_pos ho]
  rw[hout]
  exact⟨(M1,b),⟨ok1,by rw[if_neg];rw[aC.late,DF ho,Bool.and_false,Bool.and_false];exact Bool.false_ne_true⟩,ba,(dF [1,0]).ar⟩
end
end Cl
namespace Cl
open Go Vg T Api Ch Rep Rd Conf
attribute [local irreducible] VO VC VA
section
variable {p:Nat} {M:aC}
theorem aC.Ok.gQ(ok:M.Ok){n:Int}(h:(fN M.ch n).2=0)(now:Int):(M.gQ n now).Ok:=by
 obtain⟨h1,h2,h3,e⟩:=Tf h
 obtain⟨g1,g2,_⟩:=js (FK h1).1
 have e1:(M.gQ n now).ch=⟨M.ch.al+1,M.ch.ms ++ [(n,M.ch.al+1)],M.ch.drain⟩:=by show(fN M.ch n).1=_;rw[e]
 refine⟨ok.n0,ok.n1,ok.p0,ok.p1,?_,?_,by show(M.heard.set _ _).length=6;rw[Z4,ok.hl],by show(M.whole.set _ _).length=6;rw[Z4,ok.wl],fun x hx=>?_⟩
 ·rw[e1];simp;omega
 ·rw[e1]
  intro x hx
  rcases ZY.1 hx with hx | hx
  ·exact ok.mr x hx
  ·obtain rfl:=Z7.1 hx
   simp[pW] at h2
   exact h2
 ·rcases List.mem_or_eq_of_mem_set hx with h | h
  ·exact ok.hr x h
  ·rw[h];exact kg now
theorem aC.Ok.gd(ok:M.Ok){n:Int}(h:(ft M.ch n).2=0):(M.gd n).Ok:=by
 obtain⟨h1,h2,h3,e⟩:=Tg h
 have e1:(M.gd n).ch=⟨M.ch.al+1,M.ch.ms,n⟩:=by show(ft M.ch n).1=_;rw[e]
 exact⟨ok.n0,ok.n1,ok.p0,ok.p1,by rw[e1];exact ok.ml,by rw[e1];exact ok.mr,ok.hl,ok.wl,ok.hr⟩
theorem Th{n:Int}(hm:(a7 M.ch n).2=false):M.cX n=(M,[],4)∧M.drain n=(M,[],4):=by unfold aC.cX aC.drain aC.vl;simp[hm]
theorem Pj{n:Int}(hm:(a7 M.ch n).2=true)(hg:M.lz n=false):M.cX n=(M,[],72)∧M.drain n=(M,[],72):=by unfold aC.cX aC.drain aC.vl;simp[hm,hg]
theorem WH{n:Int}(hm:(a7 M.ch n).2=true)(hg:M.lz n=true)(ho:M.ue n≠0):M.cX n=(M,[],M.ue n):=by unfold aC.cX aC.vl;simp[hm,hg,ho]
theorem WI{n:Int}(hm:(a7 M.ch n).2=true)(hg:M.lz n=true)(ho:M.ue n=0):M.cX n=(M.gone n,(M.gone n).all,0):=by unfold aC.cX aC.vl;simp[hm,hg,ho]
theorem WJ{n:Int}(hm:(a7 M.ch n).2=true)(hg:M.lz n=true)(ho:(ft M.ch n).2≠0):M.drain n=(M,[],(ft M.ch n).2):=by unfold aC.drain aC.vl;simp[hm,hg,ho]
theorem WK{n:Int}(hm:(a7 M.ch n).2=true)(hg:M.lz n=true)(ho:(ft M.ch n).2=0):M.drain n=(M.gd n,(M.gd n).all,0):=by unfold aC.drain aC.vl;simp[hm,hg,ho]
theorem w6(ok:M.Ok)(n:Int):aH Tryz.prog 66 [.pointer (some ⟨p,0,none⟩),.int .i64 n] Fr w [di p M]
  (fun v L=>yL (M.cX n).2.1 (M.cX n).2.2 v L [di p (M.cX n).1]):=by
 have hl:=ok.ml
 refine TF 29 Tryz.func66 Z yn ah Z Z ?_
 refine R7 ?_
 rintro⟨a,c⟩ -
 show VC _ _ _ [pt p (bU M a c) qL,aI aG 2 a M.ch.ms.length c (flat ax M.ch.ms)] _
 refine aq ?_
 refine R9 ?_
 refine aq ?_
 refine H5 ?_
 refine aq ?_
 refine YC ?_
 refine aq ?_
 refine VC.dX Z (fun hm=>?_) (fun hm=>?_)
 ·refine aq ?_
  exact CR (ay.cV 4 5 Z Z Z (gm (a:=a) (c:=c) (R:=[])).ar (by rw[(Th hm).1];exact gK Z Z))
 refine aq ?_
 refine YD ?_
 refine aq ?_
 refine VC.dX Z (fun hg=>?_) (fun hg=>CK ?_)
 ·refine aq ?_
  exact CR (ay.cV 4 5 Z Z Z (gm (a:=a) (c:=c) (R:=[])).ar (by rw[(Pj hm hg).1];exact gK Z Z))
 refine CN (L':=[di p M]) (ae.dm (a,c) (ae.refl)).ar ?_
 refine aq ?_
 refine VG (VK (Lc:=[di p M]) (fun Fr w hF hw hS=>s4 Fr w ok n) Z Z ?_)
 rintro _ _ ⟨rfl,rfl⟩
 refine aq ?_
 refine VC.bo Z (fun ho=>?_) (fun ho=>CK ?_)
 ·have hout:M.out n=M:=by rw[aC.out,if_pos ho]
  rw[hout]
  refine aq ?_
  exact CR (ay.cV 4 5 Z Z Z ((ae.bZ (ae.refl (L:=[di p M]))).trans (IP 1 Z ae.refl)).ar (by rw[WH hm hg ho];exact gK Z Z))
 have hout:M.out n=M.gone n:=by rw[aC.out,if_neg (by rw[ho];decide)]
 rw[hout]
 have ok1:=ok.gone ho
 refine VC.e_ 0 Z (aW.dm p (M.gone n)) ?_
 rintro⟨a1,c1⟩ -
 show VC _ _ _ [pt p (bU (M.gone n) a1 c1) qL,aI aG 2 a1 (M.gone n).ch.ms.length c1 (flat ax (M.gone n).ch.ms)] _
 refine aq ?_
 refine VG (VK (Lc:=[]) (fun Fr w hF hw hS=>mE (M:=M.gone n) Fr w ok1 (hS.aP 0 Z) (aK.aI aF (hS.at_ 1 Z))) Z Z ?_)
 rintro _ _ ⟨X,sa,sc,hX,rfl,rfl⟩
 refine aq ?_
 exact CR (ay.cV 4 5 Z Z Z (kL (p:=p) (M:=M.gone n) (a:=a1) (c:=c1) (R:=[])).ar (by rw[WI hm hg ho];exact⟨X,sa,sc,hX,Z,Z⟩))
theorem CL(ok:M.Ok)(n:Int):aH Tryz.prog 68 [.pointer (some ⟨p,0,none⟩),.int .i64 n] Fr w [di p M]
  (fun v L=>yL (M.drain n).2.1 (M.drain n).2.2 v L [di p (M.drain n).1]):=by
 have hl:=ok.ml
 refine TF 40 Tryz.func68 Z yn ah Z Z ?_
 refine R7 ?_
 rintro⟨a,c⟩ -
 show VC _ _ _ [pt p (bU M a c) qL,aI aG 2 a M.ch.ms.length c (flat ax M.ch.ms)] _
 refine aq ?_
 refine R9 ?_
 refine aq ?_
 refine H5 ?_
 refine aq ?_
 refine YC ?_
 refine aq ?_
 refine VC.dX Z (fun hm=>?_) (fun hm=>?_)
 ·refine aq ?_
  exact CR (ay.cV 4 5 Z Z Z (gm (a:=a) (c:=c) (R:=[])).ar (by rw[(Th hm).2];exact gK Z Z))
 refine aq ?_
 refine YD ?_
 refine aq ?_
 refine VC.dX Z (fun hg=>?_) (fun hg=>CK ?_)
 ·refine aq ?_
  exact CR (ay.cV 4 5 Z Z Z (gm (a:=a) (c:=c) (R:=[])).ar (by rw[(Pj hm hg).2];exact gK Z Z))
 refine an ?_
 refine R8 ?_
 refine aq ?_
 refine VG (VK (Lc:=[]) (fun Fr w hF hw hS=>EC Fr w (c:=M.ch) (aK.aI aF (hS.at_ 1 Z)) yd n) Z Z ?_)
 rintro _ _ ⟨wa,wc,rfl,rfl⟩
 refine aJ ?_
 refine VG (VO.alloc Z fun b6=>?_)
 refine VG (VT (vs:=(ft M.ch n).1.cells wa wc) (cs':=(ft M.ch n).1.cells wa wc) 0 Z Z Z Z (NR _) Z Z Z ?_)
 refine aJ ?_
 refine VC.bo Z (fun ho=>?_) (fun ho=>CK ?_)
 ·refine aJ ?_
  refine CR (ay.cV 4 5 Z Z Z ?_ (by rw[WJ hm hg ho];exact gK Z Z))
  exact(ae.trans (M:=qM p M a c ++ []) (dF [2,2]) gm).ar
 have ok1:=ok.gd ho
 refine aJ ?_
 refine VG (VL 0 ((ft M.ch n).1.cells wa wc) Z Z Z Z ?_)
 refine aJ ?_
 refine VG (VT (vs:=(ft M.ch n).1.cells wa wc) (cs':=bU (M.gd n) wa wc) 2 Z Z Z Z UL Z Z Z ?_)
 refine VO.ar (L':=[pt p (bU (M.gd n) wa wc) qL,aI aG 2 wa (M.gd n).ch.ms.length wc (flat ax (M.gd n).ch.ms)]) (dF [2,1]).ar ?_
 refine aJ ?_
 refine VG (VK (Lc:=[]) (fun Fr w hF hw hS=>mE (M:=M.gd n) Fr w ok1 (hS.aP 0 Z) (aK.aI aF (hS.at_ 1 Z))) Z Z ?_)
 rintro _ _ ⟨X,sa,sc,hX,rfl,rfl⟩
 refine aq ?_
 exact CR (ay.cV 4 5 Z Z Z (kL (p:=p) (M:=M.gd n) (a:=wa) (c:=wc) (R:=[])).ar (by rw[WK hm hg ho];exact⟨X,sa,sc,hX,Z,Z⟩))
theorem WL{n now:Int}(h:M.isNode n=false):M.join n now=(M,[],2):=by unfold aC.join;simp[h]
theorem WM{n now:Int}(h:M.isNode n=true)(ho:(fN M.ch n).2≠0):M.join n now=(M,[],(fN M.ch n).2):=by unfold aC.join;simp[h,ho]
theorem WN{n now:Int}(h:M.isNode n=true)(ho:(fN M.ch n).2=0):M.join n now=(M.gQ n now,(M.gQ n now).all,0):=by unfold aC.join;simp[h,ho]
theorem EF(ok:M.Ok)(n now:Int):aH Tryz.prog 117 [.pointer (some ⟨p,0,none⟩),.int .i64 n,.int .i64 now] Fr w [di p M]
  (fun v L=>yL (M.join n now).2.1 (M.join n now).2.2 v L [di p (M.join n now).1]):=by
 have hl:=ok.ml
 refine TF 49 Tryz.func117 Z yn ah Z Z ?_
 refine R7 ?_
 rintro⟨a,c⟩ -
 show VC _ _ _ [pt p (bU M a c) qL,aI aG 2 a M.ch.ms.length c (flat ax M.ch.ms)] _
 refine aq ?_
 refine R9 ?_
 refine aq ?_
 refine H5 ?_
 refine aq ?_
 refine VG (VV (fun Fr w hF hw hS=>rW Fr w (hS.aP 0 Z) n) Z ?_)
 refine aq ?_
 refine VC.dX Z (fun hn=>?_) (fun hn=>CK ?_)
 ·refine aq ?_
  exact CR (ay.cV 6 7 Z Z Z (gm (a:=a) (c:=c) (R:=[])).ar (by rw[WL hn];exact gK Z Z))
 obtain⟨j,hj,hj6,_⟩:=ok.FN (aC.CI ok hn)
 refine an ?_
 refine R8 ?_
 refine aq ?_
 refine VG (VK (Lc:=[]) (fun Fr w hF hw hS=>Hm Fr w (c:=M.ch) (aK.aI aF (hS.at_ 1 Z)) yd n) Z Z ?_)
 rintro _ _ ⟨wa,wc,rfl,rfl⟩
 refine aJ ?_
 refine VG (VO.alloc Z fun b6=>?_)
 refine VG (VT (vs:=(fN M.ch n).1.cells wa wc) (cs':=(fN M.ch n).1.cells wa wc) 0 Z Z Z Z (NR _) Z Z Z ?_)
 refine aJ ?_
 refine VC.bo Z (fun ho=>?_) (fun ho=>CK ?_)
 ·refine aJ ?_
  refine CR (ay.cV 6 7 Z Z Z ?_ (by rw[WM hn ho];exact gK Z Z))
  exact(ae.trans (M:=qM p M a c ++ []) (dF [2,2]) gm).ar
 have ok1:=ok.gQ ho now
 have ok2:({ M with ch:=(fN M.ch n).1 }:aC).Ok:=⟨ok1.n0,ok1.n1,ok1.p0,ok1.p1,ok1.ml,ok1.mr,ok.hl,ok.wl,ok.hr⟩
 have ok3:({ M with ch:=(fN M.ch n).1,whole:=M.whole.set j false }:aC).Ok:=⟨ok1.n0,ok1.n1,ok1.p0,ok1.p1,ok1.ml,ok1.mr,ok.hl,by show(M.whole.set _ _).length=6;rw[Z4,ok.wl],ok.hr⟩
 refine aJ ?_
 refine VG (VL 0 ((fN M.ch n).1.cells wa wc) Z Z Z Z ?_)
 refine aJ ?_
 refine VG (VT (vs:=(fN M.ch n).1.cells wa wc) (cs':=bU { M with ch:=(fN M.ch n).1 } wa wc) 2 Z Z Z Z UL Z Z Z ?_)
 refine aJ ?_
 refine VG (VI (bG j Z Z Z Z Z hj hj6) ?_)
 refine VG (VO.st 2 (cs':=bU { M with ch:=(fN M.ch n).1,whole:=M.whole.set j false } wa wc) Z Z Z Z (by show 0+11+j*1<_;rw[nG ok2];omega) (by show(bU ({ M with ch:=(fN M.ch n).1 }:aC) wa wc).set (0+11+j*1) _=_;rw[show 0+11+j*1=11+j from by omega,nH ok2 hj6]) Z ?_)
 refine aJ ?_
 refine CD (ts 0 3 (ts 4 2 (.only 3 (.take 6 (.only 7 .nil))))) yn yr ?_
 refine jo ?_
 refine AG (AR (fun Fr w hF hs hS=>nE Fr w now) Z Z yu ?_)
 refine VS ?_
 refine AG (VA.st 2 (cs':=bU (M.gQ n now) wa wc) Z Z Z Z Z (by show 0+5+j*1<_;rw[nG ok3];omega) (by show(bU ({ M with ch:=(fN M.ch n).1,whole:=M.whole.set j false }:aC) wa wc).set (0+5+j*1) _=_;rw[show 0+5+j*1=5+j from by omega,vQ ok3 hj6,aC.gQ,show n.toNat=j from by omega]) Z yu ?_)
 refine jo ?_
 refine CN (L':=[pt p (bU (M.gQ n now) wa wc) qL,aI aG 2 wa (M.gQ n now).ch.ms.length wc (flat ax (M.gQ n now).ch.ms)]) (dF [2,1]).ar ?_
 refine aJ ?_
 refine VG (VK (Lc:=[]) (fun Fr w hF hw hS=>mE (M:=M.gQ n now) Fr w ok1 (hS.aP 0 Z) (aK.aI aF (hS.at_ 1 Z))) Z Z ?_)
 rintro _ _ ⟨X,sa,sc,hX,rfl,rfl⟩
 refine aq ?_
 exact CR (ay.cV 6 7 Z Z Z (kL (p:=p) (M:=M.gQ n now) (a:=wa) (c:=wc) (R:=[])).ar (by rw[WN hn ho];exact⟨X,sa,sc,hX,Z,Z⟩))
theorem CM(ok:M.Ok){a:Option Addr}{c:Nat}(h:eS Fr w p (bU M a c))(hm:aK ax 2 Fr w a M.ch.ms):aH Tryz.prog 118 [.pointer (some ⟨p,0,none⟩)] Fr w []
  (fun v L=>∃a' c',v=.agg (M.ch.cells a' c').toArray∧L=[aI aG 2 a' M.ch.ms.length c' (flat ax M.ch.ms)]):=by
 have hl:=ok.ml
 refine TF 12 Tryz.func118 Z yn ah Z Z ?_
 refine CS (CG (VG (VO.alloc Z fun d=>?_)))
 refine aq ?_
 refine VG (VV (fun Fr w hF hw hS=>vP Fr w ok (h.of hF hw)) Z ?_)
 refine Ff ?_
 refine VR ?_
 refine Yy ?_
 rintro _ _ ⟨ma,mc,rfl,rfl⟩
 refine VG (VT (vs:=M.ch.cells ma mc) (cs':=M.ch.cells ma mc) 1 Z Z Z Z (NR _) Z Z Z ?_)
 refine aq ?_
 exact CR (ay.cell 2 Z Z Z (aE.many 1 Z Z) (IP 0 Z ae.nil).ar ⟨ma,mc,Z,Z⟩)
end
end Cl
namespace Cl
open Go Vg T Api Ch Rep Rd Conf Sched
attribute [local irreducible] VO VC VA
def JE(k:Nat):List Bool:=(List.range 6).map fun(i:Nat)=>decide (i<k)
def rY(c:aV)(k:Nat):aC:=⟨c.nodes,c.bu,br c,List.replicate 6 0,JE k⟩
theorem JF{k:Nat}(h:k<6):(JE k).set k true=JE (k+1):=by
 rcases(by omega:k=0∨k=1∨k=2∨k=3∨k=4∨k=5) with rfl | rfl | rfl | rfl | rfl | rfl<;>rfl
theorem iU{c:aV}(h:c=dz c):(4≤c.bu∧c.bu≤64)∧(4≤c.timeout∧c.timeout≤64)∧(0≤c.dE∧c.dE≤16)∧(1≤c.cH∧c.cH≤1099511627776)∧(4≤c.link∧c.link≤64)∧(1≤c.qs.length∧c.qs.length≤4):=by
 have e1:c.bu=aw c.bu 4 64:=congrArg aV.bu h
 have e2:c.timeout=aw c.timeout 4 64:=congrArg aV.timeout h
 have e3:c.dE=aw c.dE 0 16:=congrArg aV.dE h
 have e4:c.cH=aw c.cH 1 1099511627776:=congrArg aV.cH h
 have e5:c.link=aw c.link 4 64:=congrArg aV.link h
 have e6:c.qs=gq c.qs:=congrArg aV.qs h
 have n1:=fE (x:=c.bu) (lo:=4) (hi:=64) yp
 have n2:=fE (x:=c.timeout) (lo:=4) (hi:=64) yp
 have n3:=fE (x:=c.dE) (lo:=0) (hi:=16) yp
 have n4:=fE (x:=c.cH) (lo:=1) (hi:=1099511627776) yp
 have n5:=fE (x:=c.link) (lo:=4) (hi:=64) yp
 have n6:=oG c.qs
 rw[←e6] at n6
 omega
theorem CO{c:aV}(h:c=dz c)(k:Nat):(rY c k).Ok:=by
 obtain⟨b1,b2,_⟩:=cP h
 obtain⟨b3,_⟩:=iU h
 refine⟨b1.1,b1.2,by show 0≤c.bu;omega,by show c.bu≤_;omega,?_,?_,Z,Z,fun x hx=>?_⟩
 ·show(gI c.chain.toNat).length≤7;rw[jy];omega
 ·intro x hx
  obtain⟨i,hi,rfl⟩:=Z0.1 (show x∈(List.range c.chain.toNat).map _ from hx)
  have:=List.mem_range.1 hi
  dsimp only;omega
 ·obtain rfl:=List.eq_of_mem_replicate hx
  decide
theorem FO(c:aV)(h:c=dz c):rY c c.chain.toNat=vk c:=by
 obtain⟨b1,b2,_⟩:=cP h
 unfold rY vk JE
 congr 1
 refine List.map_congr_left fun i hi=>?_
 by_cases e:(i:Int)<c.chain
 ·rw[DT e,DT yd]
 ·rw[DF e,DF yd]
theorem EG{n k:Nat}(h:k<n):(gI n)[k]?=some ((k:Int),(1:Int)):=by
 unfold gI
 rw[ZS,List.getElem?_range h];rfl
theorem Ho(c:aV){qa:Option Addr}{qc:Nat}(hq:ee Fr w qa c.qs)(hqa:sI qa)(hqc:c.qs.length≤qc):
  aH Tryz.prog 29 [.agg (c.cells qa qc).toArray] Fr w [] (fun v L=>if c=dz c then ∃p,v=.tuple #[.pointer (some ⟨p,0,none⟩),.int .i64 0]∧L=[di p (vk c)] else v=.tuple #[.pointer none,.int .i64 2]∧L=[]):=by
 refine TF 38 Tryz.func29 Z yn ah Z Z ?_
 refine CS (CG (VG (VB (vs:=c.cells qa qc) Z fun b1=>VG (VN ?_))))
 refine Wi ?_
 refine VG (VK (Lc:=[]) (fun Fr w hF hs _=>vc Fr w c qa qc (fY hq hF hs) hqa hqc) Z Z ?_)
 rintro v L1 h
 by_cases hf:c=dz c
 rotate_left
 ·rw[if_neg hf] at h
  obtain⟨rfl,rfl⟩:=h
  refine aJ ?_
  refine VG (VO.alloc Z fun b4=>?_)
  refine Vl ?_
  refine wI ?_
  exact CR (ay.cV 2 3 Z Z Z ae.nil.ar Xv)
 rw[if_pos hf] at h
 obtain⟨a,n,rfl,rfl⟩:=h
 obtain⟨b1',b2',_⟩:=cP hf
 have hlen:(br c).ms.length=c.chain.toNat:=jy _
 refine aJ ?_
 refine VG (VO.alloc Z fun b4=>?_)
 refine VG (VT (vs:=(br c).cells a n) (cs':=(br c).cells a n) 0 Z Z Z Z (NR _) Z Z Z ?_)
 refine KR ?_
 refine pQ ?_
 refine VG (VL 0 ((br c).cells a n) Z Z Z Z ?_)
 refine VG (VI (LB (pv:=[(0,.int .i64 c.nodes),(1,.int .i64 c.bu),(2,.agg ((br c).cells a n).toArray)]) (bU (rY c 0) a n) Z Z Z yn Z) ?_)
 refine VG (VB (vs:=bU (rY c 0) a n) Z fun q=>?_)
 refine wH ?_
 have hq2:∀(i:Nat) (x:bI),(br c).ms[i]?=some x→x=((i:Int),(1:Int)):=fun i x hx=>by
  have hi:=(ZP.1 hx).1
  rw[hlen] at hi
  have:=EG hi
  rw[show(br c).ms=gI c.chain.toNat from rfl,this] at hx
  exact(Z3 hx).symm
 refine CN (L':=[aI aG 2 a (br c).ms.length n (flat ax (br c).ms),pt q (bU (rY c 0) a n) qL]) (dF [2,0]).ar ?_
 generalize hms:(br c).ms=ms at hlen hq2
 refine VC.e_ 0 Z (aW.sl _ _ _ _ _ _) ?_
 rintro(_ | ⟨mb,rest⟩) ⟨hx1,hx2,hx3⟩
 ·obtain⟨_,h0,_⟩:=hx3
  omega
 obtain⟨rfl,hx4⟩:=hx3
 dsimp only
 refine VC.loop (σ:=Nat) (fun k=>[(6,pV q),(24,.slice (some ⟨mb,0,none⟩) ms.length n),(25,.int .i64 ms.length),(26,.int .i64 (k:Int))]) (fun k=>[pt mb (flat ax ms++rest) aG,pt q (bU (rY c k) (some ⟨mb,0,none⟩) n) qL]) (fun k=>k≤ms.length) (fun k=>ms.length-k) 0
  (ZO _) ba ER ?_
 rintro k hk
 refine aq ?_
 refine CP (p:=(k:Int)<ms.length) Z (fun h1=>CK ?_) (fun h1=>CX ?_)
 rotate_left
 ·obtain rfl:k=ms.length:=by omega
  refine aq ?_
  refine CR (ay.cV 2 3 Z Z Z (L':=[di q (vk c)]) ?_ (by rw[if_pos hf];exact⟨q,Z,Z⟩))
  rw[←FO c hf,←hlen]
  refine(ae.dm (some ⟨mb,0,none⟩,n) (IP 1 Z ?_)).ar
  show ae [pt mb (flat ax ms++rest) aG] [aI aG 2 (some ⟨mb,0,none⟩) (br c).ms.length n (flat ax (br c).ms)]
  rw[hms]
  exact ae.sl hx1 hx2 (by simpa using hx4) ae.refl
 obtain⟨x,hx⟩:∃x,ms[k]?=some x:=⟨_,GE yd⟩
 obtain rfl:=hq2 k x hx
 have hk6:k<6:=by omega
 have ok:=CO hf k
 refine HZ ?_
 refine VG (VL 0 (ax ((k:Int),1)) Z Z Z (by show((flat ax ms++rest).drop (0+k*2)).take 2=_;rw[ZQ];exact fG aF hx rest) ?_)
 refine VG (VO.alloc Z fun b8=>?_)
 refine VG (VT (vs:=ax ((k:Int),1)) (cs':=ax ((k:Int),1)) 0 Z Z Z Z (NR _) Z Z Z ?_)
 refine aq ?_
 refine T7 ?_
 refine eW ?_
 refine AG (AI Z (bG k Z Z Z Z Z Z hk6) ?_)
 refine AG (VA.st 2 (cs':=bU (rY c (k+1)) (some ⟨mb,0,none⟩) n) Z Z Z Z Z (by show 0+11+k*1<_;rw[nG ok];omega) (by show(bU (rY c k) _ n).set (0+11+k*1) _=_;rw[show 0+11+k*1=11+k from by omega,nH ok hk6];show bU ⟨_,_,_,_,(JE k).set k true⟩ _ _=_;rw[JF hk6];rfl) Z yu ?_)
 refine jo ?_
 refine qT ?_
 exact⟨k+1,by omega,by dsimp only;omega,SC Z (SC Z (SC Z (Sub.int Z yd (SN _)))),(dF [1,1]).ar⟩
end Cl
namespace Cl
open Go Vg T Api Ch Rep
attribute [local irreducible] VO VC VA
abbrev lU:TypeId:=138
structure w7 where
 q:Nat
 b:Nat
 a:Option Addr
 c:Nat
def QV(o:Option (Option gr))(b:Nat):Value:=match o with
 | some _=>.pointer (some ⟨b,0,none⟩)
 | none=>.pointer none
def mG(o:Option (Option gr))(b:Nat):HP:=match o with
 | some x=>pt b (sZ x) qH
 | none=>gu True
def ek(S:aN)(y:w7):List Value:=[.int .i64 S.id,.int .i64 S.cls,.int .i64 S.timeout,.int .i64 S.dE,.pointer (some ⟨y.q,0,none⟩),.int .i64 S.ch.al,.slice y.a S.ch.ms.length y.c,.int .i64 S.ch.drain,QV S.out y.b,.int .i64 S.fP,.int .i64 S.since,.int .i64 S.Am,.bool S.unsure,.int .i64 S.seq,.int .i64 S.tries,.int .i64 S.cl,.int .i64 S.deadline,.int .i64 S.op.kind,.string S.op.key,.string S.op.value,.int .i64 S.op.version]
def w9(p:Nat)(S:aN)(y:w7):List HP:=[pt p (ek S y) lU,pt y.q (fB S.tok) gY,aI aG 2 y.a S.ch.ms.length y.c (flat ax S.ch.ms),mG S.out y.b]
def cz(p:Nat)(S:aN):HP:=hex fun y:w7=>cU (w9 p S y)
theorem aW.pz(p:Nat)(S:aN):aW (ι:=w7) (cz p S) (fun _=>True) (fun y=>w9 p S y):=fun w ids ⟨x,h⟩ hn=>⟨x,trivial,ids,h,hn,fun _ h=>h⟩
theorem ae.pz{p:Nat}{S:aN}{L K:List HP}(y:w7)(h:ae L (w9 p S y++K)):ae L (cz p S::K):=ae.ex (f:=fun y:w7=>cU (w9 p S y)) y (ae.sep h)
structure aN.Ok(S:aN):Prop where
 c0:1≤S.cls
 c1:S.cls≤4
 t0:0≤S.timeout
 t1:S.timeout≤1000
 b0:0≤S.dE
 b1:S.dE≤16
 tok:S.tok.Ok
 ml:S.ch.ms.length≤6
 out:S.fP≠0→S.out=some none
 s0:0≤S.since
 s1:S.since≤1099511627776
 q0:0≤S.seq
 r0:0≤S.tries
 r1:S.tries≤17
 rb:S.fP=1∨S.fP=3→S.tries≤16
def gg(toQ:Int)(f:aa):rU:=((toQ,f,[]),(none,0))
theorem CQ{p:Nat}{S:aN}{y:w7}{A R:List HP}:ae (A++(w9 p S y++R)) (cz p S::A):=
 (ae.perm List.perm_append_comm).trans (ae.pz y ((ae.of_eq (ZX _ _ _)).trans (ae.app ae.refl ae.JD)))
theorem FP{p:Nat}{S:aN}{y:w7}{toQ:Int}{f:aa}{sb:Nat}{R:List HP}:ae (pt sb (jP (gg toQ f)) iA::(w9 p S y++R)) (cz p S::aI iA 30 (some ⟨sb,0,none⟩) 1 1 (flat jP [gg toQ f]) :: [gg toQ f].map ke):=by
 rw[vR]
 refine ae.trans (M:=[aI iA 30 (some ⟨sb,0,none⟩) 1 1 (jP (gg toQ f)),ke (gg toQ f)]++(w9 p S y++R)) ?_ CQ
 exact ae.UF (n:=1) (by rw[uu]) (ae.cons (ae.bZ ae.refl))
theorem mH{p:Nat}{S:aN}{y:w7}{R:List HP}:ae (w9 p S y++R) (cz p S::aI iA 30 none 0 0 (flat jP [])::([]:List rU).map ke):=
 (ae.bZ (ae.refl (L:=w9 p S y++R))).trans (CQ (A:=[aI iA 30 none 0 0 []]))
theorem EH{v:Value}{L H:List HP}{toQ:Int}{f:aa}{sb:Nat}(hv:v=.slice (some ⟨sb,0,none⟩) 1 1)(hL:L=H++(aI iA 30 (some ⟨sb,0,none⟩) 1 1 (flat jP [gg toQ f]) :: [gg toQ f].map ke)):kK [(toQ,f,[])] v L H:=AV (x:=gg toQ f) hv hL
section
variable {p:Nat} {S:aN} {y:w7}
theorem AW(n:Int):aH Tryz.prog 149 [.int .i64 n] Fr w [] (fun v L=>v=.int .i64 (cw n)∧L=[]):=by
 refine TF 6 Tryz.func149 Z yn ah Z Z ?_
 refine aq ?_
 exact CR (ay.int 2 Z Z Xk ER ⟨rfl,Z⟩)
theorem vT(ok:S.Ok)(h:eS Fr w p (ek S y)):aH Tryz.prog 121 [.pointer (some ⟨p,0,none⟩)] Fr w [] (fun v L=>v=.bool true∧L=[]):=by
 have:=ok.c0
 refine TF 12 Tryz.func121 Z yn ah Z Z ?_
 refine Ux ?_
 refine zn ?_
 exact CR (ay.bool (b:=true) 2 Z Z (DT yd) ER ⟨rfl,Z⟩)
theorem vU(ok:S.Ok)(h:eS Fr w p (ek S y)):aH Tryz.prog 147 [.pointer (some ⟨p,0,none⟩)] Fr w [] (fun v L=>v=.bool (S.fP != 0)∧L=[]):=by
 refine TF 12 Tryz.func147 Z yn ah Z Z ?_
 refine aJ ?_
 refine VU ?_
 refine Ux ?_
 refine zn ?_
 exact Dz
theorem Hp(ok:S.Ok)(h:eS Fr w p (ek S y)):aH Tryz.prog 71 [.pointer (some ⟨p,0,none⟩)] Fr w [] (fun v L=>v=.int .i64 S.seq∧L=[]):=by
 refine TF 10 Tryz.func71 Z yn ah Z Z ?_
 refine aJ ?_
 refine VU ?_
 refine KR ?_
 refine zn ?_
 exact Dz
def QW(o:Option gr):Value:=.tuple #[.agg (eN (o.getD jF)).toArray,.bool o.isSome]
theorem w_(ok:S.Ok)(h:eS Fr w p (ek S y))(hs:∀x,S.out=some x→eS Fr w y.b (sZ x)):aH Tryz.prog 69 [.pointer (some ⟨p,0,none⟩)] Fr w [] (fun v L=>v=QW S.outcome∧L=[]):=by
 have hv:∀o,S.out=o→(ek S y)[8]?=some (QV o y.b):=fun o e=>by rw[←e];rfl
 refine TF 22 Tryz.func69 Z yn ah Z Z ?_
 refine CS (CG (VG (VO.alloc Z fun b2=>?_)))
 refine aJ ?_
 refine VU ?_
 refine aJ ?_
 refine VG (VY 7 false Z Z ?_)
 refine aJ ?_
 unfold aN.outcome
 cases ho:S.out with
 | none=>
  refine VG (VO.load (v:=.pointer none) Z Z (aE.aP h (hv _ ho)) ?_)
  refine wI ?_
  refine VG (VL 0 (eN jF) Z Z Z Z ?_)
  refine Yp ?_
  refine aJ ?_
  exact Yq
 | some x=>
  refine YE ?_
  refine KR ?_
  refine aJ ?_
  refine YE ?_
  refine VG (VV (fun Fr w hF hw _=>Hh Fr w x ((hs x ho).of hF hw)) Z ?_)
  refine aJ ?_
  refine VG (VT (vs:=eN (x.getD jF)) (cs':=eN (x.getD jF)) 0 Z Z Z Z (NR _) Z Z Z ?_)
  refine aJ ?_
  exact CR (ay.aT 2 3 Z Z Z (aE.many (ds:=eN (x.getD jF)) 0 Z Z) Z ae.nil.ar ⟨rfl,Z⟩)
theorem p_:aH Tryz.prog 222 [] Fr w [] (fun v L=>∃sb,v=.slice (some ⟨sb,0,none⟩) 1 1∧L=[pt sb (jP (gg 16 { aa.zero with kind:=7 })) iA]):=by
 refine TF 4 Tryz.func222 Z yn ah Z Z ?_
 refine aq ?_
 refine VG (VI (LB (pv:=[(0,.int .i64 7)]) (({ aa.zero with kind:=7 }:aa).cells (none,0,0)) Z Z Z yn Z) ?_)
 refine VG (VI (LB (pv:=[(0,.int .i64 16),(1,.agg (({ aa.zero with kind:=7 }:aa).cells (none,0,0)).toArray)]) (jP (gg 16 { aa.zero with kind:=7 })) Z Z Z yn Z) ?_)
 refine VG (VO.buildSlice (pv:=[(0,.agg (jP (gg 16 { aa.zero with kind:=7 })).toArray)]) (jP (gg 16 { aa.zero with kind:=7 })) Z Z Z Z yp (bJ Z Z Z) fun sb=>?_)
 refine aq ?_
 exact CR (ay.tmp 0 Z Z ER ⟨sb,Z,Z⟩)
theorem yO(ok:S.Ok)(now:Int):aH Tryz.prog 152 [.pointer (some ⟨p,0,none⟩),.int .i64 now] Fr w [cz p S] (fun v L=>kK (S.ask now).2 v L [cz p (S.ask now).1]):=by
 refine TF 13 Tryz.func152 Z yn ah Z Z ?_
 refine PC ?_
 rintro y -
 show VC _ _ _ [pt p (ek S y) lU,pt y.q (fB S.tok) gY,aI aG 2 y.a S.ch.ms.length y.c (flat ax S.ch.ms),mG S.out y.b] _
 refine aq ?_
 refine VG (VO.st 0 (cs':=ek { S with fP:=1 } y) Z Z Z Z TE Z Z ?_)
 refine VG (VO.st 0 (cs':=ek { S with fP:=1,since:=now } y) Z Z Z Z (by show 10<21;omega) Z Z ?_)
 refine aq ?_
 refine VG (VK (Lc:=[]) (fun Fr w hF hw _=>p_ Fr w) Z Z ?_)
 rintro _ _ ⟨sb,rfl,rfl⟩
 refine aq ?_
 exact CR (ay.tmp 4 Z Z (FP (S:={ S with fP:=1,since:=now }) (y:=y) (R:=[])).ar (EH Z Z))
end
end Cl
namespace Cl
open Go Vg T Api Ch Rep
attribute [local irreducible] VO VC VA
section
variable {p:Nat} {S:aN}
theorem yP(ok:S.Ok)(now:Int):aH Tryz.prog 151 [.pointer (some ⟨p,0,none⟩),.int .i64 now] Fr w [cz p S] (fun v L=>kK (S.ct now).2 v L [cz p (S.ct now).1]):=by
 have hr0:=ok.r0
 have hr1:=ok.r1
 have hml:=ok.ml
 refine TF 68 Tryz.func151 Z yn ah Z Z ?_
 refine PC ?_
 rintro y -
 show VC _ _ _ [pt p (ek S y) lU,pt y.q (fB S.tok) gY,aI aG 2 y.a S.ch.ms.length y.c (flat ax S.ch.ms),mG S.out y.b] _
 refine OW ?_
 refine aq ?_
 refine VG (VO.st 0 (cs':=ek { S with tries:=S.tries+1 } y) Z Z Z Z (by show 14<21;omega) Z Z ?_)
 refine aq ?_
 refine VG (VO.st 0 (cs':=ek { S with tries:=S.tries+1,fP:=2 } y) Z Z Z Z TE Z Z ?_)
 refine VG (VO.st 0 (cs':=ek (S.nV now) y) Z Z Z Z (by show 10<21;omega) Z Z ?_)
 refine aq ?_
 refine VG (VL 0 (S.ch.cells y.a y.c) Z Z Z Z ?_)
 refine VG (VV (fun Fr w hF hw hS=>l8 Fr w (c:=S.ch) (aK.aI aF (hS.at_ 2 Z)) yd) Z (VG (VN ?_)))
 refine CS (VC.cq (σ:=Int) (fun toQ=>[(0,pV p),(5,.int .i64 toQ)]) (fun _=>[pt p (ek (S.nV now) y) lU,pt y.q (fB S.tok) gY,aI aG 2 y.a S.ch.ms.length y.c (flat ax S.ch.ms),mG S.out y.b]) (fun toQ=>toQ=(S.nV now).toQ) ?_ ?_)
 ·refine aq ?_
  refine VG (VL 0 S.op.cells Z Z Z Z ?_)
  refine VG (VV (fun Fr w hF hw hS=>Kv.kC Fr w S.op) Z ?_)
  refine aq ?_
  refine CC Z (fun h=>?_) (fun h=>CK ?_)
  ·refine aq ?_
   refine VG (VL 0 (S.ch.cells y.a y.c) Z Z Z Z ?_)
   refine VG (VV (fun Fr w hF hw hS=>l9 Fr w (c:=S.ch) (aK.aI aF (hS.at_ 2 Z)) yd) Z ?_)
   refine aq ?_
   exact⟨_,by show qn S.ch=if vj S.op=true then qn S.ch else sv S.ch;rw[show vj S.op=true from h];rfl,SC Z (SC Z (SN _)),ER⟩
  ·exact⟨_,by show sv S.ch=if vj S.op=true then qn S.ch else sv S.ch;rw[show vj S.op=false from h];rfl,SC Z (SC Z (SN _)),ER⟩
 rintro toQ hto
 unfold aN.ct
 rw[←hto]
 refine CS (CD (ts 0 32 (.only 32 (.take 33 .nil))) yn yr ?_)
 refine eW ?_
 refine AG (VA.ky 0 S.op.cells Z Z Z Z Z ?_)
 refine AG (AI Z (LB (pv:=[(0,.int .i64 1),(1,.int .i64 S.ch.al),(2,.int .i64 S.id),(3,.int .i64 S.seq),(4,.int .i64 (S.tries+1)),(5,.int .i64 S.cl),(6,.int .i64 S.deadline),(7,.agg S.op.cells.toArray)]) ((jR (S.nV now)).cells (none,0,0)) Z Z Z yn Z) ?_)
 refine AG (AI Z (LB (pv:=[(0,.int .i64 toQ),(1,.agg ((jR (S.nV now)).cells (none,0,0)).toArray)]) (jP (gg toQ (jR (S.nV now)))) Z Z Z yn Z) ?_)
 refine AG (AO (a8.buildSlice (n:=1) (pv:=[(0,.agg (jP (gg toQ (jR (S.nV now)))).toArray)]) (cells:=jP (gg toQ (jR (S.nV now)))) rfl rfl rfl rfl yp (bJ rfl rfl rfl)) rfl (fun v L' g=>by obtain⟨b,rfl,rfl⟩:=g;exact Dy) ?_)
 rintro _ _ ⟨sb,rfl,rfl⟩
 refine jo ?_
 exact CR (ay.tmp 4 Z Z (FP (S:=S.nV now) (y:=y) (R:=[])).ar (EH Z Z))
theorem s8(ho:S.out=some none){o:gr}(h1:1≤o.kind)(h2:o.kind≤3):aH Tryz.prog 244 [.pointer (some ⟨p,0,none⟩),.agg (eN o).toArray] Fr w [cz p S] (fun v L=>v=.tuple #[]∧L=[cz p (S.end_ o)]):=by
 refine TF 13 Tryz.func244 Z yn ah Z Z ?_
 refine CS (CG (VG (VB (vs:=eN o) Z fun b3=>VG (VN ?_))))
 refine VC.e_ 1 Z (aW.pz p S) ?_
 rintro y -
 have hv:(ek S y)[8]?=some (.pointer (some ⟨y.b,0,none⟩)):=by show some (QV S.out y.b)=_;rw[ho];rfl
 have hp:mG S.out y.b=pt y.b (sZ none) qH:=by rw[ho];rfl
 have he:S.end_ o={ S with out:=some (some o),fP:=0 }:=by unfold aN.end_ SP;rw[ho]
 rw[he]
 show VC _ _ _ [pt p (ek S y) lU,pt y.q (fB S.tok) gY,aI aG 2 y.a S.ch.ms.length y.c (flat ax S.ch.ms),mG S.out y.b,pt b3 (eN o) rR] _
 rw[hp]
 refine CN (L':=[pt y.b (sZ none) qH,pt b3 (eN o) rR,pt p (ek S y) lU,pt y.q (fB S.tok) gY,aI aG 2 y.a S.ch.ms.length y.c (flat ax S.ch.ms)]) (dF [3,3,0,0,0]).ar ?_
 refine CS (CD (ts 0 5 (.only 5 .nil)) yn yr ?_)
 refine jo ?_
 refine AG (VA.ld 2 Z Z Z Z hv ?_)
 refine AG (VA.ky 1 (eN o) Z Z Z Z Z ?_)
 refine AG (AO (OC (Lc:=[pt y.b (sZ none) qH]) (Lr:=[pt b3 (eN o) rR,pt p (ek S y) lU,pt y.q (fB S.tok) gY,aI aG 2 y.a S.ch.ms.length y.c (flat ax S.ch.ms)]) rfl (.refl _) (fun Fr w hF hw hS=>Hk Fr w h1 h2)) rfl (fun v L' g=>by obtain⟨_,⟨rfl,rfl⟩,rfl⟩:=g;exact(by(try refine Pd.st ?_);(repeat(first|exact Pd.nil|exact Pd.fnil|refine Pd.inner ?_|refine Pd.skip yr ?_|refine zf (zo 0 rfl rfl) ?_|refine zf (zo 1 rfl rfl) ?_|refine zf (zo 2 rfl rfl) ?_|refine zf (zm 0 rfl rfl) ?_|refine zf (zm 1 rfl rfl) ?_|refine zf (zm 2 rfl rfl) ?_|refine zf (aE.aP (aE.one 2 rfl hv) rfl) ?_|refine zf ((aE.one 2 rfl hv)) ?_|refine zc (zo 0 rfl rfl) ?_|refine zc (zo 1 rfl rfl) ?_|refine zc (zo 2 rfl rfl) ?_|refine zc (zm 0 rfl rfl) ?_|refine zc (zm 1 rfl rfl) ?_|refine zc (zm 2 rfl rfl) ?_|refine zc (aE.aP (aE.one 2 rfl hv) rfl) ?_|refine zc ((aE.one 2 rfl hv)) ?_)))) ?_)
 rintro _ _ ⟨_,⟨rfl,rfl⟩,rfl⟩
 refine HY ?_
 have hc:ek S y=ek { S with out:=some (some o) } y:=by unfold ek;rw[ho];rfl
 rw[hc]
 refine VG (VO.st 2 (cs':=ek { S with out:=some (some o),fP:=0 } y) Z Z Z Z TE Z Z ?_)
 refine aq ?_
 exact ay.void Z (ae.pz (S:={ S with out:=some (some o),fP:=0 }) y (IP 2 Z (IP 2 Z (IP 2 Z (IP 0 Z ae.nil))))).ar ⟨rfl,Z⟩
theorem qN(ho:S.out=some none)(reason:Int):aH Tryz.prog 179 [.pointer (some ⟨p,0,none⟩),.int .i64 reason] Fr w [cz p S] (fun v L=>kK (S.giveUp reason).2 v L [cz p (S.giveUp reason).1]):=by
 unfold aN.giveUp
 refine TF 17 Tryz.func179 Z yn ah Z Z ?_
 refine PC ?_
 rintro y -
 show VC _ _ _ [pt p (ek S y) lU,pt y.q (fB S.tok) gY,aI aG 2 y.a S.ch.ms.length y.c (flat ax S.ch.ms),mG S.out y.b] _
 refine Du ?_
 refine CS (VC.cq (σ:=gr) (fun _=>[(0,pV p)]) (fun o=>[cz p (S.end_ o)]) (fun o=>o=if S.unsure then ⟨3,0,c_⟩ else ⟨2,reason,c_⟩) ?_ ?_)
 ·refine an ?_
  refine CC Z (fun h=>?_) (fun h=>?_)
  ·refine Ui ?_
   refine aq ?_
   refine VG (VI (LB (pv:=[(0,.int .i64 3)]) (eN ⟨3,0,c_⟩) Z Z Z yn Z) ?_)
   refine VG (VK (Lc:=[cz p S]) (fun Fr w hF hw _=>s8 Fr w ho (o:=⟨3,0,c_⟩) yp yp) Z Z ?_)
   rintro _ _ ⟨rfl,rfl⟩
   refine aq ?_
   exact⟨_,by rw[h];rfl,SC Z (SN _),ER⟩
  ·refine Ui ?_
   refine aq ?_
   refine VG (VI (LB (pv:=[(0,.int .i64 2),(1,.int .i64 reason)]) (eN ⟨2,reason,c_⟩) Z Z Z yn Z) ?_)
   refine VG (VK (Lc:=[cz p S]) (fun Fr w hF hw _=>s8 Fr w ho (o:=⟨2,reason,c_⟩) (by show(1:Int)≤2;decide) (by show(2:Int)≤3;decide)) Z Z ?_)
   rintro _ _ ⟨rfl,rfl⟩
   refine aq ?_
   exact⟨_,by rw[h];rfl,SC Z (SN _),ER⟩
 rintro o rfl
 generalize (if S.unsure=true then (⟨3,0,c_⟩:gr) else ⟨2,reason,c_⟩)=o
 refine aq ?_
 refine VG (VK (Lc:=[]) (fun Fr w hF hw _=>p_ Fr w) Z Z ?_)
 rintro _ _ ⟨sb,rfl,rfl⟩
 refine aq ?_
 refine CR (ay.tmp 4 Z Z ?_ (EH (toQ:=16) (f:={ aa.zero with kind:=7 }) (sb:=sb) Z Z))
 rw[vR]
 refine ae.ar (ae.trans (M:=[aI iA 30 (some ⟨sb,0,none⟩) 1 1 (jP (gg 16 { aa.zero with kind:=7 })),ke (gg 16 { aa.zero with kind:=7 }),cz p (S.end_ o)]) ?_ (dF [2,0,0]))
 exact ae.UF (n:=1) (by rw[uu]) (ae.cons (ae.bZ ae.refl))
end
end Cl
namespace Cl
open Go Vg T Api Ch Rep
attribute [local irreducible] VO VC VA
section
variable {p:Nat} {S:aN}
theorem mI{v:Value}{L H:List HP}(hv:v=.slice none 0 0)(hL:L=H++(aI iA 30 none 0 0 (flat jP [])::([]:List rU).map ke)):kK [] v L H:=mF hv hL
theorem vV(ok:S.Ok)(ho:S.out=some none)(reason now:Int)(h0:0≤now)(h1:now≤1099511627776):aH Tryz.prog 178 [.pointer (some ⟨p,0,none⟩),.int .i64 reason,.int .i64 now] Fr w [cz p S] (fun v L=>kK (S.nz reason now).2 v L [cz p (S.nz reason now).1]):=by
 unfold aN.nz
 refine TF 49 Tryz.func178 Z yn ah Z Z ?_
 refine PC ?_
 rintro y -
 show VC _ _ _ [pt p (ek S y) lU,pt y.q (fB S.tok) gY,aI aG 2 y.a S.ch.ms.length y.c (flat ax S.ch.ms),mG S.out y.b] _
 refine aq ?_
 refine CD (ts 0 23 (.only 23 (ts 24 2 .nil))) yn yr ?_
 refine lW ?_
 by_cases g1:S.dE<S.tries
 ·rw[if_pos (.inl g1)]
  refine AG (AY 16 true Z (DT g1) ?_)
  refine lW ?_
  refine AG (AY 24 true Z Z ?_)
  refine PG ?_
  refine wF ?_
  refine Ui ?_
  refine aq ?_
  refine VW ?_
  rintro _ _ ⟨X,sa,sc,hX,rfl,rfl⟩
  refine aq ?_
  exact Rv
 refine AG (AY 16 false Z (DF g1) ?_)
 refine lW ?_
 by_cases g2:S.deadline<now
 ·rw[if_pos (.inr g2)]
  refine AG (AY 24 true Z (DT g2) ?_)
  refine PG ?_
  refine wF ?_
  refine Ui ?_
  refine aq ?_
  refine VW ?_
  rintro _ _ ⟨X,sa,sc,hX,rfl,rfl⟩
  refine aq ?_
  exact Rv
 rw[if_neg (fun h=>h.elim g1 g2)]
 refine AG (AY 24 false Z (DF g2) ?_)
 refine lW ?_
 refine AG (AO (OC (Lc:=[pt y.q (fB S.tok) gY]) (Lr:=[pt p (ek S y) lU,aI aG 2 y.a S.ch.ms.length y.c (flat ax S.ch.ms),mG S.out y.b]) rfl (.swap _ _ _) (fun Fr w hF hw hS=>EA Fr w ok.tok now)) rfl (fun v L' g=>by obtain⟨_,⟨rfl,rfl⟩,rfl⟩:=g;exact Dy) ?_)
 rintro _ _ ⟨_,⟨rfl,rfl⟩,rfl⟩
 refine nY ?_
 refine VC.dX Z (fun hb=>?_) (fun hb=>CK ?_)
 ·rw[if_neg (by rw[hb];decide)]
  refine CN (L':=[cz p (S.wV now)]) (ae.pz (S:=S.wV now) y (dF [1,0,0,0])).ar ?_
  refine aq ?_
  refine VG (VK (Lc:=[cz p (S.wV now)]) (Lr:=[]) (fun Fr w hF hw _=>qN (S:=S.wV now) Fr w ho reason) Z Z ?_)
  rintro _ _ ⟨X,sa,sc,hX,rfl,rfl⟩
  refine aq ?_
  exact Rv
 rw[if_pos hb]
 have hg:=S_ S.tries 64
 refine aq ?_
 refine VG (VO.st 1 (cs':=ek { S with fP:=3 } y) Z Z Z Z TE Z Z ?_)
 refine jd ?_
 refine VG (VV (fun Fr w hF hw _=>Jv Fr w S.tries 64) Z ?_)
 refine Gd ?_
 refine aq ?_
 refine VG (VO.st 1 (cs':=ek ((S.wV now).FA now) y) Z Z Z Z (by show 11<21;omega) Z Z ?_)
 refine aq ?_
 refine CR (ay.tmp 6 Z Z ?_ (mI Z Z))
 exact(ae.trans (M:=w9 p ((S.wV now).FA now) y ++ []) (dF [1,0,0,0]) mH).ar
theorem xd(ok:S.Ok)(ho:S.out=some none)(reason now:Int)(h0:0≤now)(h1:now≤1099511627776):aH Tryz.prog 286 [.pointer (some ⟨p,0,none⟩),.int .i64 reason,.int .i64 now] Fr w [cz p S] (fun v L=>kK (S.refused reason now).2 v L [cz p (S.refused reason now).1]):=by
 have ok2:({ S with unsure:=true }:aN).Ok:=⟨ok.c0,ok.c1,ok.t0,ok.t1,ok.b0,ok.b1,ok.tok,ok.ml,ok.out,ok.s0,ok.s1,ok.q0,ok.r0,ok.r1,ok.rb⟩
 unfold aN.refused
 refine TF 25 Tryz.func286 Z yn ah Z Z ?_
 refine Du ?_
 refine CS (CS (CG (VG (VN ?_))))
 refine VC.cq (σ:=aN) (fun _=>[(0,pV p),(1,.int .i64 reason),(2,.int .i64 now)]) (fun S'=>[cz p S']) (fun S'=>(S'={ S with unsure:=true }∧(reason=6∨reason=5∨reason=7))∨(S'=S∧¬(reason=6∨reason=5∨reason=7)∧¬(reason=2∨reason=10))) ?_ ?_
 rotate_left
 ·rintro S' hS
  have key:S'.Ok∧S'.out=some none∧(if reason=6∨reason=5∨reason=7 then ({ S with unsure:=true }:aN).nz reason now else if reason=2∨reason=10 then S.giveUp reason else S.nz reason now)=S'.nz reason now:=by
   rcases hS with ⟨rfl,h⟩ | ⟨rfl,h,h'⟩
   ·exact⟨ok2,ho,if_pos h⟩
   ·exact⟨ok,ho,by rw[if_neg h,if_neg h']⟩
  rw[key.2.2]
  refine aq ?_
  refine VG (VK (Lc:=[cz p S']) (Lr:=[]) (fun Fr w hF hw _=>vV Fr w key.1 key.2.1 reason now h0 h1) Z Z ?_)
  rintro _ _ ⟨X,sa,sc,hX,rfl,rfl⟩
  refine aq ?_
  exact Rv
 refine VC.block ?_
 refine CS (VC.cq (σ:=Bool) (fun b=>[(0,pV p),(1,.int .i64 reason),(2,.int .i64 now),(7,.int .i64 reason),(8,.bool b)]) (fun _=>[cz p S]) (fun b=>b=true↔(reason=6∨reason=5∨reason=7)) ?_ ?_)
 ·refine aq ?_
  refine CE Z (fun k=>CK ?_) (fun k=>?_)
  ·exact⟨true,by simp[k],SC Z (SC Z (SC Z (SC Z (Sub.bl Z (beq_iff_eq.2 k) (SN _))))),ER⟩
  refine aq ?_
  refine CE Z (fun k5=>CK ?_) (fun k5=>?_)
  ·exact⟨true,by simp[k5],SC Z (SC Z (SC Z (SC Z (Sub.bl Z (beq_iff_eq.2 k5) (SN _))))),ER⟩
  refine aq ?_
  exact⟨decide (reason=7),by simp[k,k5],SC Z (SC Z (SC Z (SC Z (Sub.bl Z Z (SN _))))),ER⟩
 rintro b hb
 refine aq ?_
 refine CC Z (fun k=>?_) (fun k=>?_)
 ·have k:=hb.1 k
  refine PC ?_
  rintro y -
  show VC _ _ _ [pt p (ek S y) lU,pt y.q (fB S.tok) gY,aI aG 2 y.a S.ch.ms.length y.c (flat ax S.ch.ms),mG S.out y.b] _
  refine aq ?_
  refine YF ?_
  refine aq ?_
  exact⟨{ S with unsure:=true },.inl ⟨rfl,k⟩,ba,(ae.pz (S:={ S with unsure:=true }) y ae.refl).ar⟩
 have k:¬(reason=6∨reason=5∨reason=7):=fun h=>by rw[hb.2 h] at k;cases k
 refine CS (VC.cq (σ:=Bool) (fun b=>[(0,pV p),(1,.int .i64 reason),(2,.int .i64 now),(15,.bool b)]) (fun _=>[cz p S]) (fun b=>b=true↔(reason=2∨reason=10)) ?_ ?_)
 ·refine aq ?_
  refine CE Z (fun k=>CK ?_) (fun k=>?_)
  ·exact⟨true,by simp[k],SC Z (SC Z (SC Z (Sub.bl Z (beq_iff_eq.2 k) (SN _)))),ER⟩
  refine aq ?_
  exact⟨decide (reason=10),by simp[k],SC Z (SC Z (SC Z (Sub.bl Z Z (SN _)))),ER⟩
 rintro b2 hb2
 refine aq ?_
 refine CC Z (fun k2=>?_) (fun k2=>CK ?_)
 ·rw[if_neg k,if_pos (hb2.1 k2)]
  refine aq ?_
  refine VW ?_
  rintro _ _ ⟨X,sa,sc,hX,rfl,rfl⟩
  refine aq ?_
  exact Rv
 ·exact⟨S,.inr ⟨rfl,k,fun h=>by rw[hb2.2 h] at k2;cases k2⟩,ba,ER⟩
end
end Cl
namespace Cl
open Go Vg T Api Ch Rep Rd
attribute [local irreducible] VO VC VA
section
variable {p:Nat} {S:aN}
theorem EI(ok:S.Ok)(f:aa){ma:Option Addr}{mc:Nat}{ms:List bI}(hm:aK ax 2 Fr w ma ms)(hml:ms.length≤1000000)(now:Int):aH Tryz.prog 250 [.pointer (some ⟨p,0,none⟩),.agg (f.cells (ma,ms.length,mc)).toArray,.int .i64 now] Fr w [cz p S] (fun v L=>kK (S.take f ms now).2 v L [cz p (S.take f ms now).1]):=by
 have htk:=kg now
 unfold aN.take
 generalize htn:cw now=tn at htk
 generalize hfc:f.cells (ma,ms.length,mc)=fc
 have hkd:fc[0]?=some (.int .i64 f.kind):=by rw[←hfc];rfl
 have hch:(fc.drop 23).take 3=dO.cells ⟨f.bV,ms,f.drain⟩ ma mc:=by rw[←hfc];rfl
 have hep:fc[23]?=some (.int .i64 f.bV):=by rw[←hfc];rfl
 have hmm:fc[24]?=some (.slice ma ms.length mc):=by rw[←hfc];rfl
 have hcl:fc[2]?=some (.int .i64 f.aj):=by rw[←hfc];rfl
 have hsq:fc[3]?=some (.int .i64 f.seq):=by rw[←hfc];rfl
 have hty:fc[4]?=some (.int .i64 f.ct):=by rw[←hfc];rfl
 have hrs:fc[15]?=some (.int .i64 f.reason):=by rw[←hfc];rfl
 have hre:(fc.drop 11).take 4=[.int .i64 f.res.code,.string f.res.value,.int .i64 f.res.version,.int .i64 f.res.at_]:=by rw[←hfc];rfl
 refine TF 118 Tryz.func250 Z yn ah Z Z ?_
 refine CS (CG (VG (VB (vs:=fc) Z fun fb=>VG (VN ?_))))
 refine VC.e_ 1 Z (aW.pz p S) ?_
 rintro y -
 show VC _ _ _ [pt p (ek S y) lU,pt y.q (fB S.tok) gY,aI aG 2 y.a S.ch.ms.length y.c (flat ax S.ch.ms),mG S.out y.b,pt fb fc hZ] _
 have mid:jq ⟨Tryz.prog,tab,ah,118,Fr,w⟩ [pt p (ek S y) lU,pt y.q (fB S.tok) gY,aI aG 2 y.a S.ch.ms.length y.c (flat ax S.ch.ms),mG S.out y.b,pt fb fc hZ] ([cz p S] ++ [pt fb fc hZ]):=(ae.pz (K:=[pt fb fc hZ]) y ae.refl).ar
 refine aq ?_
 refine VX ?_
 refine Ff ?_
 refine VZ ?_
 rw[htn]
 refine aq ?_
 refine VG (VO.ld 4 Z Z Z hkd ?_)
 refine aq ?_
 refine CE Z (fun k8=>?_) (fun k8=>?_)
 ·rw[if_pos k8]
  refine aq ?_
  refine CD (ts 0 2 (.only 2 (ts 3 12 .nil))) yn yr ?_
  refine nY ?_
  refine AG (VA.ky 4 (dO.cells ⟨f.bV,ms,f.drain⟩ ma mc) Z Z Z Z hch ?_)
  refine AG (AR (fun Fr w hF hw hS=>Ch.bm Fr w (c:=⟨f.bV,ms,f.drain⟩) (hm.of hF hw) UO) Z Z (by(try refine Pd.st ?_);(repeat(first|exact Pd.nil|exact Pd.fnil|refine Pd.inner ?_|refine Pd.skip yr ?_|refine zf (zo 0 Z Z) ?_|refine zf (zo 1 Z Z) ?_|refine zf (zo 2 Z Z) ?_|refine zf (zo 3 Z Z) ?_|refine zf (zm 0 Z Z) ?_|refine zf (zm 1 Z Z) ?_|refine zf (zm 2 Z Z) ?_|refine zf (zm 3 Z Z) ?_|refine zf (aE.aP (aE.many 4 Z hch) Z) ?_|refine zf ((aE.many 4 Z hch)) ?_|refine zc (zo 0 Z Z) ?_|refine zc (zo 1 Z Z) ?_|refine zc (zo 2 Z Z) ?_|refine zc (zo 3 Z Z) ?_|refine zc (zm 0 Z Z) ?_|refine zc (zm 1 Z Z) ?_|refine zc (zm 2 Z Z) ?_|refine zc (zm 3 Z Z) ?_|refine zc (aE.aP (aE.many 4 Z hch) Z) ?_|refine zc ((aE.many 4 Z hch)) ?_))) ?_)
  refine nY ?_
  by_cases hc:si ⟨f.bV,ms,f.drain⟩=0
  rotate_left
  ·rw[if_pos (.inl hc)]
   refine AG (AY 20 true Z (by rw[bne_iff_ne];exact hc) ?_)
   refine nY ?_
   refine VC.kr Z (CX ?_)
   refine aq ?_
   exact Kq
  have hc6:=(js hc).2.1
  dsimp only at hc6
  refine AG (AY 20 false Z (by rw[bne_eq_false_iff_eq];exact hc) ?_)
  refine nY ?_
  refine AG (VA.ld 4 Z Z Z Z hep ?_)
  refine lW ?_
  refine CP (p:=f.bV<S.ch.al) Z (fun he=>CX ?_) (fun he=>CK ?_)
  ·rw[if_pos (.inr he)]
   refine aq ?_
   exact Kq
  rw[if_neg (fun h=>h.elim (fun k=>k hc) he)]
  refine aq ?_
  refine VG (VL 4 (dO.cells ⟨f.bV,ms,f.drain⟩ ma mc) Z Z Z hch ?_)
  refine VG (VT (vs:=dO.cells ⟨f.bV,ms,f.drain⟩ ma mc) (cs':=ek { S with ch:=⟨f.bV,ms,f.drain⟩ } { y with a:=ma,c:=mc }) 0 Z Z Z Z (by show 5+3≤21;omega) Z Z Z ?_)
  refine aq ?_
  refine VG (VO.ld 4 Z Z Z hmm ?_)
  refine VO.ar (L':=[aI aG 2 none 0 0 [],pt p (ek { S with ch:=⟨f.bV,ms,f.drain⟩ } { y with a:=ma,c:=mc }) lU,pt y.q (fB S.tok) gY,mG S.out y.b,pt fb fc hZ]) (ae.bZ (dF [0,0,1,1])).ar ?_
  refine VG (VO.append (m:=ms.length) (news:=flat ax ms) 0 Z Z Z Z Z Z Z (aK.row aF hm) (gU kB _) (by show(0+ms.length)*16≤_;omega) yd fun a' c' _=>?_)
  rw[ZQ,List.nil_append]
  refine aq ?_
  refine VG (VO.st 1 (cs':=ek { S with ch:=⟨f.bV,ms,f.drain⟩ } { y with a:=a',c:=c' }) Z Z Z Z (by show 6<21;omega) Z Z ?_)
  have ok2:({ S with ch:=⟨f.bV,ms,f.drain⟩ }:aN).Ok:=⟨ok.c0,ok.c1,ok.t0,ok.t1,ok.b0,ok.b1,ok.tok,hc6,ok.out,ok.s0,ok.s1,ok.q0,ok.r0,ok.r1,ok.rb⟩
  refine VO.ar (L':=[pt p (ek { S with ch:=⟨f.bV,ms,f.drain⟩ } { y with a:=a',c:=c' }) lU,pt y.q (fB S.tok) gY,aI aG 2 a' ms.length c' (flat ax ms),mG S.out y.b]) (dF [1,1,0,0]).ar ?_
  refine an ?_
  refine CE Z (fun h1=>?_) (fun h1=>CK ?_)
  ·rw[if_pos h1]
   refine CN (L':=[cz p { S with ch:=⟨f.bV,ms,f.drain⟩ }]) (ae.pz (S:={ S with ch:=⟨f.bV,ms,f.drain⟩ }) { y with a:=a',c:=c' } ae.refl).ar ?_
   refine aq ?_
   refine VG (VK (Lc:=[cz p { S with ch:=⟨f.bV,ms,f.drain⟩ }]) (Lr:=[]) (fun Fr w hF hw _=>yP Fr w ok2 tn) Z Z ?_)
   rintro _ _ ⟨X,sa,sc,hX,rfl,rfl⟩
   refine aq ?_
   exact Rv
  ·rw[if_neg h1]
   refine aq ?_
   exact CR (ay.tmp 6 Z Z (mH (S:={ S with ch:=⟨f.bV,ms,f.drain⟩ }) (y:={ y with a:=a',c:=c' }) (R:=[])).ar (mI Z Z))
 rw[if_neg k8]
 refine aq ?_
 refine CE Z (fun k2=>?_) (fun k2=>?_)
 ·rw[if_pos k2]
  refine aq ?_
  refine CD (ts 0 1 (.only 1 (ts 2 18 .nil))) yn yr ?_
  refine nY ?_
  refine AG (AR (fun Fr w hF hw hS=>vU Fr w ok (hS.aP 0 Z)) Z Z yu ?_)
  refine nY ?_
  by_cases hb:S.fP=0
  ·rw[if_neg (fun h=>h.1 hb)]
   refine AG (AY 56 false Z (by rw[bne_eq_false_iff_eq];exact hb) ?_)
   refine nY ?_
   refine AG (AY 65 false Z Z ?_)
   refine nY ?_
   refine Gg ?_
   exact Kq
  refine AG (AY 56 true Z (by rw[bne_iff_ne];exact hb) ?_)
  refine nY ?_
  refine AG (VA.ld 4 Z Z Z Z hcl ?_)
  refine lW ?_
  by_cases hi:f.aj=S.id
  rotate_left
  ·rw[if_neg (fun h=>hi h.2.1)]
   refine AG (AY 65 false Z (beq_eq_false_iff_ne.2 hi) ?_)
   refine nY ?_
   refine Gg ?_
   exact Kq
  refine AG (AY 65 true Z (beq_iff_eq.2 hi) ?_)
  refine nY ?_
  refine AG (VA.ld 4 Z Z Z Z hsq ?_)
  refine lW ?_
  refine CE Z (fun hs=>?_) (fun hs=>CK ?_)
  ·rw[if_pos ⟨hb,hi,hs⟩]
   refine aq ?_
   refine VG (VL 4 [.int .i64 f.res.code,.string f.res.value,.int .i64 f.res.version,.int .i64 f.res.at_] Z Z Z hre ?_)
   refine VG (VI (LB (pv:=[(0,.int .i64 1),(2,.agg ([.int .i64 f.res.code,.string f.res.value,.int .i64 f.res.version,.int .i64 f.res.at_]:List Value).toArray)]) (eN ⟨1,0,f.res⟩) Z Z Z yn Z) ?_)
   refine VO.ar mid ?_
   refine VG (VK (Lc:=[cz p S]) (Lr:=[pt fb fc hZ]) (fun Fr w hF hw _=>s8 Fr w (ok.out hb) (o:=⟨1,0,f.res⟩) (by show(1:Int)≤1;decide) (by show(1:Int)≤3;decide)) Z Z ?_)
   rintro _ _ ⟨rfl,rfl⟩
   refine aq ?_
   exact CR (ay.tmp 6 Z Z ((ae.bZ (ae.refl (L:=[cz p (S.end_ ⟨1,0,f.res⟩),pt fb fc hZ]))).trans (IP 1 Z (IP 0 Z ae.nil))).ar (mI Z Z))
  ·rw[if_neg (fun h=>hs h.2.2)]
   refine aq ?_
   exact Kq
 rw[if_neg k2]
 refine aq ?_
 refine CE Z (fun k3=>?_) (fun k3=>CK ?_)
 rotate_left
 ·rw[if_neg k3]
  refine aq ?_
  exact Kq
 rw[if_pos k3]
 refine aq ?_
 refine CD (ts 0 32 .nil) yn yr ?_
 refine lW ?_
 by_cases hd:S.fP=2
 rotate_left
 ·rw[if_neg (fun h=>hd h.1)]
  refine AG (AY 86 false Z (beq_eq_false_iff_ne.2 hd) ?_)
  refine nY ?_
  refine AG (AY 95 false Z Z ?_)
  refine nY ?_
  refine AG (AY 104 false Z Z ?_)
  refine nY ?_
  refine Gg ?_
  exact Kq
 refine AG (AY 86 true Z (beq_iff_eq.2 hd) ?_)
 refine nY ?_
 refine AG (VA.ld 4 Z Z Z Z hcl ?_)
 refine lW ?_
 by_cases hi:f.aj=S.id
 rotate_left
 ·rw[if_neg (fun h=>hi h.2.1)]
  refine AG (AY 95 false Z (beq_eq_false_iff_ne.2 hi) ?_)
  refine nY ?_
  refine AG (AY 104 false Z Z ?_)
  refine nY ?_
  refine Gg ?_
  exact Kq
 refine AG (AY 95 true Z (beq_iff_eq.2 hi) ?_)
 refine nY ?_
 refine AG (VA.ld 4 Z Z Z Z hsq ?_)
 refine lW ?_
 by_cases hs:f.seq=S.seq
 rotate_left
 ·rw[if_neg (fun h=>hs h.2.2.1)]
  refine AG (AY 104 false Z (beq_eq_false_iff_ne.2 hs) ?_)
  refine nY ?_
  refine Gg ?_
  exact Kq
 refine AG (AY 104 true Z (beq_iff_eq.2 hs) ?_)
 refine nY ?_
 refine AG (VA.ld 4 Z Z Z Z hty ?_)
 refine lW ?_
 refine CE Z (fun ht=>?_) (fun ht=>CK ?_)
 ·rw[if_pos ⟨hd,hi,hs,ht⟩]
  refine aq ?_
  refine VG (VO.ld 4 Z Z Z hrs ?_)
  refine aq ?_
  refine VO.ar mid ?_
  refine VG (VK (Lc:=[cz p S]) (Lr:=[pt fb fc hZ]) (fun Fr w hF hw _=>xd Fr w ok (ok.out (by rw[hd];decide)) f.reason tn htk.1 htk.2) Z Z ?_)
  rintro _ _ ⟨X,sa,sc,hX,rfl,rfl⟩
  refine aq ?_
  refine CR (ay.tmp 6 Z Z (L':=[cz p (S.refused f.reason tn).1]++(aI iA 30 sa X.length sc (flat jP X)::X.map ke)) ?_ ⟨X,sa,sc,hX,Z,Z⟩)
  exact((ae.perm List.perm_append_comm).trans ae.JD).ar
 ·rw[if_neg (fun h=>ht h.2.2.2)]
  refine aq ?_
  exact Kq
end
end Cl
namespace Cl
open Go Vg T Api Ch Rep Rd Conf Sched
attribute [local irreducible] VO VC VA
section
variable {S:aN}
theorem aN.Ok.ask(ok:S.Ok)(h:S.tries≤16)(ho:S.out=some none){now:Int}(h0:0≤now)(h1:now≤1099511627776):(S.ask now).1.Ok:=
 ⟨ok.c0,ok.c1,ok.t0,ok.t1,ok.b0,ok.b1,ok.tok,ok.ml,fun _=>ho,h0,h1,ok.q0,ok.r0,ok.r1,fun _=>h⟩
theorem aN.Ok.ct(ok:S.Ok)(h:S.tries≤16)(ho:S.out=some none){now:Int}(h0:0≤now)(h1:now≤1099511627776):(S.ct now).1.Ok:=by
 have:=ok.r0
 exact⟨ok.c0,ok.c1,ok.t0,ok.t1,ok.b0,ok.b1,ok.tok,ok.ml,fun _=>ho,h0,h1,ok.q0,by show 0≤S.tries+1;omega,by show S.tries+1≤17;omega,fun e=>by rcases e with e | e<;>exact absurd (show(2:Int)=_ from e) yp⟩
theorem aN.Ok.end_(ok:S.Ok)(o:gr):(S.end_ o).Ok:=
 ⟨ok.c0,ok.c1,ok.t0,ok.t1,ok.b0,ok.b1,ok.tok,ok.ml,fun e=>absurd rfl e,ok.s0,ok.s1,ok.q0,ok.r0,ok.r1,fun e=>by rcases e with e | e<;>exact absurd (show(0:Int)=_ from e) yp⟩
theorem aN.Ok.giveUp(ok:S.Ok)(r:Int):(S.giveUp r).1.Ok:=ok.end_ _
theorem aN.Ok.nz(ok:S.Ok)(ho:S.out=some none)(r now:Int):(S.nz r now).1.Ok:=by
 unfold aN.nz
 split
 ·exact ok.giveUp r
 rename_i h
 have:=ok.b1
 have ok2:(S.wV now).Ok:=⟨ok.c0,ok.c1,ok.t0,ok.t1,ok.b0,ok.b1,ok.tok.take now,ok.ml,ok.out,ok.s0,ok.s1,ok.q0,ok.r0,ok.r1,ok.rb⟩
 split
 ·exact⟨ok.c0,ok.c1,ok.t0,ok.t1,ok.b0,ok.b1,ok.tok.take now,ok.ml,fun _=>ho,ok.s0,ok.s1,ok.q0,ok.r0,ok.r1,fun _=>by show S.tries≤16;omega⟩
 ·exact ok2.giveUp r
theorem aN.Ok.unsure(ok:S.Ok):({ S with unsure:=true }:aN).Ok:=⟨ok.c0,ok.c1,ok.t0,ok.t1,ok.b0,ok.b1,ok.tok,ok.ml,ok.out,ok.s0,ok.s1,ok.q0,ok.r0,ok.r1,ok.rb⟩
theorem aN.Ok.refused(ok:S.Ok)(ho:S.out=some none)(r now:Int):(S.refused r now).1.Ok:=by
 unfold aN.refused
 split
 ·exact ok.unsure.nz ho r now
 split
 ·exact ok.giveUp r
 ·exact ok.nz ho r now
theorem aN.Ok.take(ok:S.Ok)(f:aa)(ms:List bI)(now:Int):(S.take f ms now).1.Ok:=by
 have ht:=kg now
 unfold aN.take
 split
 ·split
  ·exact ok
  rename_i hc
  have hc0:si ⟨f.bV,ms,f.drain⟩=0:=Classical.byContradiction fun e=>hc (.inl e)
  have ok2:({ S with ch:=⟨f.bV,ms,f.drain⟩ }:aN).Ok:=⟨ok.c0,ok.c1,ok.t0,ok.t1,ok.b0,ok.b1,ok.tok,(js hc0).2.1,ok.out,ok.s0,ok.s1,ok.q0,ok.r0,ok.r1,ok.rb⟩
  split
  ·rename_i h1
   exact ok2.ct (ok.rb (.inl h1)) (ok.out (by rw[h1];decide)) ht.1 ht.2
  ·exact ok2
 split
 ·split
  ·exact ok.end_ _
  ·exact ok
 split
 ·split
  ·rename_i h
   exact ok.refused (ok.out (by rw[h.1];decide)) _ _
  ·exact ok
 ·exact ok
theorem aN.Ok.tick(ok:S.Ok)(now:Int):(S.tick now).1.Ok:=by
 have ht:=kg now
 unfold aN.tick
 split
 ·rename_i h
  split
  ·exact ok.unsure.nz (ok.out iy) _ _
  ·exact ok
 split
 ·rename_i h
  split
  ·exact ok
  split
  ·exact ok.giveUp _
  ·exact ok.ask (ok.rb (.inl h)) (ok.out iy) ht.1 ht.2
 split
 ·rename_i h
  split
  ·exact ok.ask (ok.rb (.inr h)) (ok.out iy) ht.1 ht.2
  ·exact ok
 ·exact ok
theorem aN.Ok.begun(ok:S.Ok)(o:fe)(cl d:Int):(S.begun o cl d).Ok:=by
 have:=ok.q0
 exact⟨ok.c0,ok.c1,ok.t0,ok.t1,ok.b0,ok.b1,ok.tok,ok.ml,fun _=>rfl,ok.s0,ok.s1,by show 0≤S.seq+1;omega,Z5 _,by show(0:Int)≤17;decide,fun _=>by show(0:Int)≤16;decide⟩
theorem aN.Ok.call(ok:S.Ok)(o:fe)(cl d now:Int):(S.call o cl d now).1.Ok:=by
 have ht:=kg now
 unfold aN.call
 split
 ·exact ok
 split
 ·exact(ok.begun o cl d).ct (by show(0:Int)≤16;decide) Z ht.1 ht.2
 ·exact(ok.begun o cl d).ask (by show(0:Int)≤16;decide) Z ht.1 ht.2
end
section
variable {p:Nat} {S:aN}
theorem EJ(ok:S.Ok)(now:Int):aH Tryz.prog 105 [.pointer (some ⟨p,0,none⟩),.int .i64 now] Fr w [cz p S] (fun v L=>kK (S.tick now).2 v L [cz p (S.tick now).1]):=by
 have htk:=kg now
 have s0:=ok.s0
 have s1:=ok.s1
 unfold aN.tick
 generalize htn:cw now=tn at htk
 refine TF 68 Tryz.func105 Z yn ah Z Z ?_
 refine PC ?_
 rintro y -
 show VC _ _ _ [pt p (ek S y) lU,pt y.q (fB S.tok) gY,aI aG 2 y.a S.ch.ms.length y.c (flat ax S.ch.ms),mG S.out y.b] _
 have mid:jq ⟨Tryz.prog,tab,ah,68,Fr,w⟩ [pt p (ek S y) lU,pt y.q (fB S.tok) gY,aI aG 2 y.a S.ch.ms.length y.c (flat ax S.ch.ms),mG S.out y.b] [cz p S]:=(ae.pz (K:=[]) y ae.refl).ar
 refine aq ?_
 refine VX ?_
 refine Ff ?_
 refine VZ ?_
 rw[htn]
 refine an ?_
 refine CE Z (fun k2=>?_) (fun k2=>?_)
 ·rw[if_pos k2]
  have ho:=ok.out (by rw[k2];decide)
  refine aq ?_
  refine CD (ts 0 11 .nil) yn yr ?_
  refine eW ?_
  refine Rm ?_
  refine eW ?_
  refine CP (p:=S.timeout≤tn-S.since) Z (fun h=>?_) (fun h=>CK ?_)
  ·rw[if_pos h]
   refine aq ?_
   refine YF ?_
   refine VO.ar (L':=[cz p { S with unsure:=true }]) (ae.pz (S:={ S with unsure:=true }) (K:=[]) y ae.refl).ar ?_
   refine aq ?_
   refine VG (VK (Lc:=[cz p { S with unsure:=true }]) (Lr:=[]) (fun Fr w hF hw _=>vV Fr w ok.unsure ho 0 tn htk.1 htk.2) Z Z ?_)
   rintro _ _ ⟨X,sa,sc,hX,rfl,rfl⟩
   refine aq ?_
   exact Uj
  ·rw[if_neg h]
   refine aq ?_
   exact Uk
 rw[if_neg k2]
 refine aq ?_
 refine CE Z (fun k1=>?_) (fun k1=>?_)
 ·rw[if_pos k1]
  have ho:=ok.out (by rw[k1];decide)
  refine aq ?_
  refine CD (ts 0 11 .nil) yn yr ?_
  refine eW ?_
  refine Rm ?_
  refine eW ?_
  refine CP (p:=tn-S.since<S.timeout) Z (fun h=>CX ?_) (fun h=>CK ?_)
  ·rw[if_pos h]
   refine aq ?_
   exact Uk
  rw[if_neg h]
  refine an ?_
  refine CP (p:=S.deadline<tn) Z (fun h2=>?_) (fun h2=>CK ?_)
  ·rw[if_pos h2]
   refine CN mid ?_
   refine aq ?_
   refine VG (VK (Lc:=[cz p S]) (Lr:=[]) (fun Fr w hF hw _=>qN Fr w ho 2) Z Z ?_)
   rintro _ _ ⟨X,sa,sc,hX,rfl,rfl⟩
   refine aq ?_
   exact Uj
  ·rw[if_neg h2]
   refine CN mid ?_
   refine aq ?_
   refine YG ?_
   rintro _ _ ⟨X,sa,sc,hX,rfl,rfl⟩
   refine aq ?_
   exact Uj
 rw[if_neg k1]
 refine aq ?_
 refine CE Z (fun k3=>?_) (fun k3=>CK ?_)
 ·rw[if_pos k3]
  refine an ?_
  refine CP (p:=S.Am≤tn) Z (fun h=>?_) (fun h=>CK ?_)
  ·rw[if_pos h]
   refine CN mid ?_
   refine aq ?_
   refine YG ?_
   rintro _ _ ⟨X,sa,sc,hX,rfl,rfl⟩
   refine aq ?_
   exact Uj
  ·rw[if_neg h]
   refine aq ?_
   exact Uk
 ·rw[if_neg k3]
  refine aq ?_
  exact Uk
end
end Cl
namespace Cl
open Go Vg T Api Ch Rep Conf Sched
attribute [local irreducible] VO VC VA
section
variable {p:Nat} {S:aN}
def Pk(S:aN):List Value:=(ek S ⟨0,0,none,0⟩).set 4 (.pointer none)
theorem mJ{o:fe}{cl d now e:Int}(h:S.eY o cl d=e)(he:e≠0):(S.call o cl d now).1=S∧(S.call o cl d now).2=[]:=by
 unfold aN.call;rw[if_pos (by rw[h];exact he)];exact⟨rfl,rfl⟩
theorem EK(ok:S.Ok)(hq:S.seq≤1000000000)(o:fe)(cl d now:Int):aH Tryz.prog 90 [.pointer (some ⟨p,0,none⟩),.agg o.cells.toArray,.int .i64 cl,.int .i64 d,.int .i64 now] Fr w [cz p S]
  (fun v L=>yL (S.call o cl d now).2 (S.eY o cl d) v L [cz p (S.call o cl d now).1]):=by
 have htk:=kg now
 have q0:=ok.q0
 refine TF 78 Tryz.func90 Z yn ah Z Z ?_
 refine PC ?_
 rintro y -
 show VC _ _ _ [pt p (ek S y) lU,pt y.q (fB S.tok) gY,aI aG 2 y.a S.ch.ms.length y.c (flat ax S.ch.ms),mG S.out y.b] _
 refine CS (CG (VG (VB (vs:=o.cells) Z fun ob=>VO.ar (L':=[pt p (ek S y) lU,pt y.q (fB S.tok) gY,aI aG 2 y.a S.ch.ms.length y.c (flat ax S.ch.ms),mG S.out y.b,pt ob o.cells 31]) (dF [1,1,1,1,0]).ar ?_)))
 refine aq ?_
 refine VX ?_
 refine aq ?_
 refine H5 ?_
 refine aq ?_
 refine VG (VV (fun Fr w hF hw hS=>vU Fr w ok (hS.aP 0 Z)) Z ?_)
 refine aq ?_
 refine CC Z (fun hb=>?_) (fun hb=>?_)
 ·have he:S.eY o cl d=63:=by unfold aN.eY;rw[if_pos ym]
  refine aq ?_
  exact CR (ay.cV 10 11 Z Z Z (mH (y:=y) (R:=[_])).ar Xc)
 have hd0:S.fP=0:=by simpa using hb
 have hcE:S.eY o cl d=if a6 o≠0∨cl<0∨S.cls≤cl∨d<0∨1099511627776<d then 2 else 0:=by unfold aN.eY;rw[if_neg (fun h=>h hd0)]
 refine CS (VC.cq (σ:=Bool) (fun b=>[(0,pV p),(2,.int .i64 cl),(3,.int .i64 d),(4,.int .i64 now),(6,pV ob),(19,.bool b)]) (fun _=>[pt p (ek S y) lU,pt y.q (fB S.tok) gY,aI aG 2 y.a S.ch.ms.length y.c (flat ax S.ch.ms),mG S.out y.b,pt ob o.cells 31]) (fun b=>b=true↔(a6 o≠0∨cl<0∨S.cls≤cl∨d<0∨1099511627776<d)) ?_ ?_)
 ·refine aq ?_
  refine VG (VL 4 o.cells Z Z Z Z ?_)
  refine VG (VV (fun Fr w hF hw hS=>Api.bm Fr w o) Z ?_)
  refine aq ?_
  refine VC.bo Z (fun k1=>CK ?_) (fun k1=>?_)
  ·exact⟨true,by simp[k1],SC Z (SC Z (SC Z (SC Z (SC Z (Sub.bl Z (by rw[bne_iff_ne];exact k1) (SN _)))))),ER⟩
  refine aq ?_
  refine CP (p:=cl<0) Z (fun k2=>CK ?_) (fun k2=>?_)
  ·exact⟨true,by simp[k2],SC Z (SC Z (SC Z (SC Z (SC Z (Sub.bl Z (DT k2) (SN _)))))),ER⟩
  refine an ?_
  refine CP (p:=S.cls≤cl) Z (fun k3=>CK ?_) (fun k3=>?_)
  ·exact⟨true,by simp[k3],SC Z (SC Z (SC Z (SC Z (SC Z (Sub.bl Z (DT k3) (SN _)))))),ER⟩
  refine aq ?_
  refine CP (p:=d<0) Z (fun k4=>CK ?_) (fun k4=>?_)
  ·exact⟨true,by simp[k4],SC Z (SC Z (SC Z (SC Z (SC Z (Sub.bl Z (DT k4) (SN _)))))),ER⟩
  refine aq ?_
  exact⟨decide (1099511627776<d),by simp[k1,k2,k3,k4],SC Z (SC Z (SC Z (SC Z (SC Z (Sub.bl Z Z (SN _)))))),ER⟩
 rintro b hb2
 refine aq ?_
 refine CC Z (fun k=>?_) (fun k=>CK ?_)
 ·have he:S.eY o cl d=2:=by rw[hcE,if_pos (hb2.1 k)]
  refine aq ?_
  exact CR (ay.cV 10 11 Z Z Z (mH (y:=y) (R:=[_])).ar Xc)
 have he:S.eY o cl d=0:=by rw[hcE,if_neg (fun h=>by rw[hb2.2 h] at k;cases k)]
 rw[he]
 refine aq ?_
 refine VZ ?_
 refine aq ?_
 generalize htn:cw now=tn at htk
 refine VG (VK (Lc:=[]) (fun Fr w hF hw _=>Hg Fr w) Z Z ?_)
 rintro _ _ ⟨sb,rfl,rfl⟩
 refine VO.ar (L':=[pt p (ek S y) lU,pt y.q (fB S.tok) gY,aI aG 2 y.a S.ch.ms.length y.c (flat ax S.ch.ms),pt sb (sZ none) qH,pt ob o.cells 31]) (dF [1,1,1,0,1]).ar ?_
 refine aq ?_
 refine VG (VO.st 0 (cs':=ek { S with out:=some none } { y with b:=sb }) Z Z Z Z (by show 8<21;omega) Z Z ?_)
 refine an ?_
 refine VG (VP Z Z tZ tZ ?_)
 refine aq ?_
 refine VG (VO.st 0 (cs':=ek { S with out:=some none,seq:=S.seq+1 } { y with b:=sb }) Z Z Z Z (by show 13<21;omega) Z Z ?_)
 refine aq ?_
 refine VG (VO.st 0 (cs':=ek { S with out:=some none,seq:=S.seq+1,tries:=0 } { y with b:=sb }) Z Z Z Z (by show 14<21;omega) Z Z ?_)
 refine VG (VO.st 0 (cs':=ek { S with out:=some none,seq:=S.seq+1,tries:=0,unsure:=false } { y with b:=sb }) Z Z Z Z Xy Z Z ?_)
 refine aq ?_
 refine VG (VL 4 o.cells Z Z Z Z ?_)
 refine aq ?_
 refine VG (VT (vs:=o.cells) (cs':=ek { S with out:=some none,seq:=S.seq+1,tries:=0,unsure:=false,op:=o } { y with b:=sb }) 0 Z Z Z Z (by show 17+4≤21;omega) Z Z Z ?_)
 refine VG (VO.st 0 (cs':=ek { S with out:=some none,seq:=S.seq+1,tries:=0,unsure:=false,op:=o,cl:=cl } { y with b:=sb }) Z Z Z Z (by show 15<21;omega) Z Z ?_)
 refine VG (VO.st 0 (cs':=ek (S.begun o cl d) { y with b:=sb }) Z Z Z Z (by show 16<21;omega) Z Z ?_)
 refine an ?_
 have okb:=ok.begun o cl d
 refine CP (p:=0<S.ch.al) Z (fun hp=>?_) (fun hp=>CK ?_)
 ·have ec:S.call o cl d now=(S.begun o cl d).ct tn:=by unfold aN.call;rw[if_neg (by rw[he];decide),if_pos hp,htn]
  rw[ec]
  refine YH ?_
  refine aq ?_
  refine VG (VK (Lc:=[cz p (S.begun o cl d)]) (Lr:=[]) (fun Fr w hF hw _=>yP Fr w okb tn) Z Z ?_)
  rintro _ _ ⟨X,sa,sc,hX,rfl,rfl⟩
  refine aq ?_
  exact CR (ay.cV 10 11 Z Z Z ER ⟨X,sa,sc,hX,Z,ZN _⟩)
 ·have ec:S.call o cl d now=(S.begun o cl d).ask tn:=by unfold aN.call;rw[if_neg (by rw[he];decide),if_neg hp,htn]
  rw[ec]
  refine YH ?_
  refine aq ?_
  refine VG (VK (Lc:=[cz p (S.begun o cl d)]) (Lr:=[]) (fun Fr w hF hw _=>yO Fr w okb tn) Z Z ?_)
  rintro _ _ ⟨X,sa,sc,hX,rfl,rfl⟩
  refine aq ?_
  exact CR (ay.cV 10 11 Z Z Z ER ⟨X,sa,sc,hX,Z,ZN _⟩)
end
theorem Hq{c r:Int}(h0:0≤c)(h1:c≤16)(h2:1≤r)(h3:r≤1099511627776):aH Tryz.prog 53 [.int .i64 c,.int .i64 r] Fr w [] (fun v L=>∃p,v=.tuple #[.pointer (some ⟨p,0,none⟩),.int .i64 0]∧L=[pt p (fB ⟨c,r,c,0,0⟩) gY]):=by
 refine TF 25 Tryz.func53 Z yn ah Z Z ?_
 refine aq ?_
 refine VG (VY 8 false Z (DF yd) ?_)
 refine aJ ?_
 refine VG (VY 12 false Z (DF yd) ?_)
 refine aJ ?_
 refine VG (VY 16 false Z (DF yd) ?_)
 refine aJ ?_
 refine CP (p:=1099511627776<r) Z (fun h=>absurd h yd) (fun h=>CK ?_)
 refine aJ ?_
 refine VG (VI (LB (pv:=[(0,.int .i64 c),(1,.int .i64 r),(2,.int .i64 c)]) (fB ⟨c,r,c,0,0⟩) Z Z Z yn Z) ?_)
 refine VG (VB (vs:=fB ⟨c,r,c,0,0⟩) Z fun q=>?_)
 refine aq ?_
 exact CR (ay.cV 4 5 Z Z Z ER ⟨q,Z,Z⟩)
def kM(c:aV)(id:Int):Int:=if c=dz c∧0≤id∧id<c.aB then 0 else 2
theorem JG{c:aV}(h:c=dz c)(id:Int):(oS c id).Ok:=by
 obtain⟨_,b2,b3,b4,_,b6⟩:=iU h
 exact⟨by show(1:Int)≤c.qs.length;omega,by show(c.qs.length:Int)≤4;omega,by show 0≤c.timeout;omega,by show c.timeout≤1000;omega,b3.1,b3.2,⟨b3.1,b3.2,b4.1,b4.2,b3.1,Z5 _,Z5 _,by show(0:Int)≤_;decide,by show(0:Int)≤0;decide,by show(0:Int)≤0;decide⟩,by show 0≤6;decide,fun k=>absurd Z k,by show(0:Int)≤0;decide,by show(0:Int)≤_;decide,by show(0:Int)≤0;decide,by show(0:Int)≤0;decide,by show(0:Int)≤17;decide,fun _=>by show(0:Int)≤16;decide⟩
theorem Hr(c:aV){qa:Option Addr}{qc:Nat}(hq:ee Fr w qa c.qs)(hqa:sI qa)(hqc:c.qs.length≤qc)(id:Int):
  aH Tryz.prog 33 [.agg (c.cells qa qc).toArray,.int .i64 id] Fr w [] (fun v L=>if kM c id=0 then ∃p,v=.tuple #[.pointer (some ⟨p,0,none⟩),.int .i64 0]∧L=[cz p (oS c id)] else v=.tuple #[.pointer none,.int .i64 2]∧L=[]):=by
 refine TF 42 Tryz.func33 Z yn ah Z Z ?_
 refine CS (CG (VG (VB (vs:=c.cells qa qc) Z fun b2=>VG (VN ?_))))
 refine Wi ?_
 refine VG (VV (fun Fr w hF hs _=>Conf.bm Fr w c qa qc (fY hq hF hs) hqa hqc) Z ?_)
 refine aJ ?_
 by_cases hf:c=dz c
 rotate_left
 ·have hE:kM c id≠0:=by unfold kM;rw[if_neg (fun h=>hf h.1)];decide
  refine VG (VY 10 true Z (by unfold ic;rw[if_neg hf];rfl) ?_)
  refine aJ ?_
  refine VG (VY 14 true Z Z ?_)
  refine wI ?_
  exact V0
 refine VG (VY 10 false Z (by unfold ic;rw[if_pos hf];rfl) ?_)
 refine aJ ?_
 by_cases h0:id<0
 ·have hE:kM c id≠0:=by unfold kM;rw[if_neg (fun h=>by omega)];decide
  refine VG (VY 14 true Z (DT h0) ?_)
  refine wI ?_
  exact V0
 refine VG (VY 14 false Z (DF h0) ?_)
 refine eR ?_
 refine CP (p:=c.aB≤id) Z (fun h1=>?_) (fun h1=>CK ?_)
 ·have hE:kM c id≠0:=by unfold kM;rw[if_neg (fun h=>by omega)];decide
  refine aJ ?_
  exact V0
 have hE:kM c id=0:=by unfold kM;rw[if_pos ⟨hf,by omega,by omega⟩]
 obtain⟨_,b2,b3,b4,_,b6⟩:=iU hf
 refine eR ?_
 refine VG (VI (LB (pv:=[(0,.int .i64 id),(1,.int .i64 c.qs.length),(2,.int .i64 c.timeout),(3,.int .i64 c.dE)]) (Pk (oS c id)) Z Z Z yn Z) ?_)
 refine VG (VB (vs:=Pk (oS c id)) Z fun p=>?_)
 refine wH ?_
 refine VG (VK (Lc:=[]) (fun Fr w hF hs _=>Hq Fr w b3.1 b3.2 b4.1 b4.2) Z Z ?_)
 rintro _ _ ⟨q,rfl,rfl⟩
 refine wH ?_
 refine VG (VO.st 1 (cs':=ek (oS c id) ⟨q,0,none,0⟩) Z Z Z Z (by show 4<21;omega) Z Z ?_)
 refine wH ?_
 exact CR (ay.cV 4 5 Z Z Z (ae.pz (S:=oS c id) (K:=[]) ⟨q,0,none,0⟩ (IP 1 Z (IP 0 Z (ae.bZ (ae.pure trivial ae.nil))))).ar (by rw[if_pos hE];exact⟨p,Z,Z⟩))
end Cl
namespace Cl
open Go Vg T Api Ch Rep
attribute [local irreducible] VO VC VA
abbrev oa:TypeId:=116
abbrev oc:TypeId:=234
def recC(r:RecM):List Value:=[.int .i64 r.aj,.int .i64 r.seq]++r.op.cells ++ [.int .i64 r.from_,.int .i64 r.toQ]++eN r.out
theorem iV(r:RecM):(recC r).length=14:=rfl
def ig(h:bN)(a:Option Addr)(c:Nat):List Value:=[.bool true,.slice a h.bz.length c,.int .i64 h.events]++h.last.map (Value.int .i64)
def Oc(p:Nat)(h:bN)(a:Option Addr)(c:Nat):List HP:=[pt p (ig h a c) oa,aI oc 14 a h.bz.length c (flat recC h.bz)]
def kN(p:Nat)(h:bN):HP:=hex fun y:Option Addr×Nat=>cU (Oc p h y.1 y.2)
theorem aW.gD(p:Nat)(h:bN):aW (ι:=Option Addr×Nat) (kN p h) (fun _=>True) (fun y=>Oc p h y.1 y.2):=fun w ids ⟨x,h⟩ hn=>⟨x,trivial,ids,h,hn,fun _ h=>h⟩
theorem ae.gD{p:Nat}{S:bN}{L K:List HP}(y:Option Addr×Nat)(h:ae L (Oc p S y.1 y.2++K)):ae L (kN p S::K):=ae.ex (f:=fun y:Option Addr×Nat=>cU (Oc p S y.1 y.2)) y (ae.sep h)
structure bN.Ok(h:bN):Prop where
 rl:h.bz.length≤1000000
 e0:0≤h.events
 e1:h.events≤10000000
 ll:h.last.length=6
 lr:∀x∈h.last,0≤x∧x≤h.bz.length
def bN.jU(h:bN)(c:Int):Int:=(h.last[c.toNat]?).getD 0
section
variable {p:Nat} {S:bN} {a:Option Addr} {cap:Nat}
theorem FQ(ok:S.Ok):(ig S a cap).length=9:=by show(_::_::_::S.last.map _).length=9;simp[ok.ll]
theorem QX{k:Nat}{x:Int}(h:S.last[k]?=some x):(ig S a cap)[3+k]?=some (.int .i64 x):=by
 show(_::_::_::S.last.map (Value.int .i64))[3+k]?=_
 rw[show 3+k=k+1+1+1 from by omega]
 simp only[List.getElem?_cons_succ]
 rw[ZS,h];rfl
theorem Od{k:Nat}(x:Int):(ig S a cap).set (3+k) (.int .i64 x)=ig { S with last:=S.last.set k x } a cap:=by
 show(_::_::_::S.last.map (Value.int .i64)).set (3+k) _=_::_::_::(S.last.set k x).map (Value.int .i64)
 rw[show 3+k=k+1+1+1 from by omega]
 simp only[List.set_cons_succ]
 rw[Z_]
theorem bN.Ok.at(ok:S.Ok){c:Int}(h:0≤c∧c<6):∃k:Nat,c=k∧k<6∧S.last[k]?=some (S.jU c)∧0≤S.jU c∧S.jU c≤S.bz.length:=by
 obtain⟨k,rfl⟩:∃k:Nat,c=k:=⟨c.toNat,by omega⟩
 have hk:k<S.last.length:=by rw[ok.ll];omega
 have e:S.last[k]?=some (S.jU (k:Int)):=by
  unfold bN.jU
  rw[ZU,GE hk];rfl
 exact⟨k,Z,by omega,e,ok.lr _ (ME e)⟩
theorem lC{c:Int}(h:c<0∨6≤c∨S.jU c=0):S.dd c=none:=by unfold bN.dd;exact if_pos h
theorem tP(ok:S.Ok){c:Int}(h0:0≤c)(h1:c<6)(h2:S.jU c≠0):∃i r,S.dd c=some (i,r)∧S.bz[i]?=some r∧S.jU c=(i:Int)+1∧i<S.bz.length:=by
 obtain⟨k,_,_,_,g1,g2⟩:=ok.at ⟨h0,h1⟩
 have hi:(S.jU c).toNat-1<S.bz.length:=by omega
 refine⟨(S.jU c).toNat-1,S.bz[(S.jU c).toNat-1],?_,GE hi,by omega,hi⟩
 unfold bN.dd
 rw[if_neg (fun h=>by
  rcases h with h | h | h
  ·omega
  ·omega
  ·exact h2 h)]
 show(S.bz[(S.jU c).toNat-1]?).map _=_
 rw[GE hi];rfl
theorem rZ(ok:S.Ok)(c:Int):(S.dd c=none∧(c<0∨6≤c∨S.jU c=0))∨∃i r,S.dd c=some (i,r)∧S.bz[i]?=some r∧S.jU c=(i:Int)+1∧i<S.bz.length:=by
 by_cases h:c<0∨6≤c∨S.jU c=0
 ·exact .inl ⟨lC h,h⟩
 ·exact .inr (tP ok yd yd yd)
def mK(S:bN)(a:Option Addr)(c:Int):Value:=match S.dd c with
 | none=>.pointer none
 | some (i,_)=>.pointer (a.map fun x=>⟨x.block,x.off+i*14,none⟩)
theorem Hs:aH Tryz.prog 30 [] Fr w [] (fun v L=>∃p,v=.pointer (some ⟨p,0,none⟩)∧L=[kN p B_]):=by
 refine TF 3 Tryz.func30 Z yn ah Z Z ?_
 refine aq ?_
 refine VG (VI (LB (pv:=[(0,.bool true)]) (ig B_ none 0) Z Z Z yn Z) ?_)
 refine VG (VB (vs:=ig B_ none 0) Z fun q=>?_)
 refine aq ?_
 exact CR (ay.tmp 0 Z Z (ae.gD (S:=B_) (K:=[]) (none,0) (IP 0 Z (ae.bZ ae.nil))).ar ⟨q,Z,Z⟩)
theorem vW(h:eS Fr w p (ig S a cap)):aH Tryz.prog 123 [.pointer (some ⟨p,0,none⟩)] Fr w [] (fun v L=>v=.bool false∧L=[]):=by
 refine TF 12 Tryz.func123 Z yn ah Z Z ?_
 refine aJ ?_
 refine RW ?_
 refine zn ?_
 exact Dz
theorem CT(ok:S.Ok)(h:eS Fr w p (ig S a cap))(hr:aK recC 14 Fr w a S.bz)(c:Int):aH Tryz.prog 124 [.pointer (some ⟨p,0,none⟩),.int .i64 c] Fr w [] (fun v L=>v=mK S a c∧L=[]):=by
 have hrl:=ok.rl
 refine TF 32 Tryz.func124 Z yn ah Z Z ?_
 refine aJ ?_
 by_cases h0:c<0
 ·refine VG (VY 7 true Z (DT h0) ?_)
  refine aJ ?_
  refine VG (VY 11 true Z Z ?_)
  refine wI ?_
  exact CR (ay.tmp 4 Z Z ER ⟨by rw[mK,lC (.inl h0)],Z⟩)
 refine VG (VY 7 false Z (DF h0) ?_)
 refine aJ ?_
 by_cases h6:6≤c
 ·refine VG (VY 11 true Z (DT h6) ?_)
  refine wI ?_
  exact CR (ay.tmp 4 Z Z ER ⟨by rw[mK,lC (.inr (.inl h6))],Z⟩)
 refine VG (VY 11 false Z (DF h6) ?_)
 obtain⟨k,rfl,hk,hx,g1,g2⟩:=ok.at (c:=c) ⟨by omega,by omega⟩
 have hx':(ig S a cap)[0+3+k*1]?=some (.int .i64 (S.jU k)):=by rw[show 0+3+k*1=3+k from by omega];exact QX hx
 refine aJ ?_
 refine VG (VI (bG k Z Z Z Z Z Z hk) ?_)
 refine VG (VO.load Z Z (aE.aP h hx') ?_)
 refine aJ ?_
 refine CE Z (fun hz=>?_) (fun hz=>CK ?_)
 ·refine aJ ?_
  exact CR (ay.tmp 4 Z Z ER ⟨by rw[mK,lC (.inr (.inr hz))],Z⟩)
 obtain⟨i,r,e1,e2,e3,e4⟩:=tP ok yd yd hz
 obtain⟨rb,ro,rfl,_,_⟩:=hr.at_ (fun e=>by rw[e] at e4;exact absurd e4 yf)
 refine aq ?_
 refine CD (ts 0 13 .nil) yn yr ?_
 refine Kn ?_
 refine AG (AI Z (bG k Z Z Z Z Z Z hk) ?_)
 refine AG (VA.load Z Z Z (aE.aP h hx') ?_)
 refine Rm ?_
 refine AG (AI Z (a_ i Z Z Z Z Z yd e4) ?_)
 refine jo ?_
 exact CR (ay.tmp 4 Z Z ER ⟨by rw[mK,e1];rfl,Z⟩)
end
end Cl
namespace Cl
open Go Vg T Api Ch Rep
attribute [local irreducible] VO VC VA
section
variable {p:Nat} {S:bN}
def AX(S:bN)(c seq:Int)(o:fe):RecM:=⟨c,seq,o,S.events,-1,SQ⟩
theorem bN.pE{c seq:Int}{o:fe}(h:c<0∨6≤c∨seq<1∨a6 o≠0):S.eY c seq o=2:=by unfold bN.eY;exact if_pos h
theorem bN.EL{c seq:Int}{o:fe}(h:¬(c<0∨6≤c∨seq<1∨a6 o≠0))(h2:S.dd c=none):S.eY c seq o=0:=by unfold bN.eY;rw[if_neg h,h2]
theorem bN.EM{c seq:Int}{o:fe}{i:Nat}{r:RecM}(h:¬(c<0∨6≤c∨seq<1∨a6 o≠0))(h2:S.dd c=some (i,r)):S.eY c seq o=if r.toQ<0 then 63 else if seq≤r.seq then 70 else 0:=by unfold bN.eY;rw[if_neg h,h2]
theorem bN.mJ{c seq e:Int}{o:fe}(h:S.eY c seq o=e)(he:e≠0):S.call c seq o=S:=by unfold bN.call;rw[h,if_pos he]
theorem bN.Oe{c seq:Int}{o:fe}(h:S.eY c seq o=0):S.call c seq o=⟨S.bz ++ [AX S c seq o],S.events+1,S.last.set c.toNat ((S.bz.length:Int)+1)⟩:=by unfold bN.call;rw[h,if_neg yp];rfl
theorem bN.Ok.call(ok:S.Ok)(h1:S.bz.length<1000000)(h2:S.events<10000000)(c seq:Int)(o:fe):(S.call c seq o).Ok:=by
 unfold bN.call
 split
 ·exact ok
 have:=ok.e0
 refine⟨by show(S.bz ++ [_]).length≤_;rw[ZM];simp;omega,by show 0≤S.events+1;omega,by show S.events+1≤_;omega,by show(S.last.set _ _).length=6;rw[Z4,ok.ll],fun x hx=>?_⟩
 show 0≤x∧x≤((S.bz ++ [_]).length:Int)
 rw[ZM]
 rcases List.mem_or_eq_of_mem_set hx with h | h
 ·have:=ok.lr x h;simp;omega
 ·rw[h];simp;omega
theorem EN(ok:S.Ok)(h2:S.events<10000000)(c seq:Int)(o:fe):aH Tryz.prog 91 [.pointer (some ⟨p,0,none⟩),.int .i64 c,.int .i64 seq,.agg o.cells.toArray] Fr w [kN p S]
  (fun v L=>v=.int .i64 (S.eY c seq o)∧L=[kN p (S.call c seq o)]):=by
 have hrl:=ok.rl
 have he0:=ok.e0
 refine TF 77 Tryz.func91 Z yn ah Z Z ?_
 refine VC.e_ 0 Z (aW.gD p S) ?_
 rintro⟨a,cap⟩ -
 show VC _ _ _ [pt p (ig S a cap) oa,aI oc 14 a S.bz.length cap (flat recC S.bz)] _
 refine CS (CG (VG (VB (vs:=o.cells) Z fun ob=>VO.ar (L':=[pt p (ig S a cap) oa,aI oc 14 a S.bz.length cap (flat recC S.bz),pt ob o.cells 31]) (dF [1,1,0]).ar ?_)))
 have fin:∀a cap,jq ⟨Tryz.prog,tab,ah,77,Fr,w⟩ [pt p (ig S a cap) oa,aI oc 14 a S.bz.length cap (flat recC S.bz),pt ob o.cells 31] [kN p S]:=fun a cap=>(ae.gD (K:=[]) (a,cap) (dF [0,0])).ar
 refine aq ?_
 refine VG (VV (fun Fr w hF hw hS=>vW Fr w (hS.aP 0 Z)) Z ?_)
 refine O0 ?_
 refine aJ ?_
 by_cases k0:c<0
 ·have hE:=bN.pE (S:=S) (c:=c) (seq:=seq) (o:=o) (.inl k0)
  refine VG (VY 14 true Z (DT k0) ?_)
  refine aJ ?_
  refine VG (VY 18 true Z Z ?_)
  refine aJ ?_
  refine VG (VY 22 true Z Z ?_)
  refine wI ?_
  exact Ul
 refine VG (VY 14 false Z (DF k0) ?_)
 refine aJ ?_
 by_cases k1:6≤c
 ·have hE:=bN.pE (S:=S) (c:=c) (seq:=seq) (o:=o) (.inr (.inl k1))
  refine VG (VY 18 true Z (DT k1) ?_)
  refine aJ ?_
  refine VG (VY 22 true Z Z ?_)
  refine wI ?_
  exact Ul
 refine VG (VY 18 false Z (DF k1) ?_)
 refine aJ ?_
 by_cases k2:seq<1
 ·have hE:=bN.pE (S:=S) (c:=c) (seq:=seq) (o:=o) (.inr (.inr (.inl k2)))
  refine VG (VY 22 true Z (DT k2) ?_)
  refine wI ?_
  exact Ul
 refine VG (VY 22 false Z (DF k2) ?_)
 refine aJ ?_
 refine VG (VL 2 o.cells Z Z Z Z ?_)
 refine VG (VV (fun Fr w hF hw hS=>Api.bm Fr w o) Z ?_)
 refine aJ ?_
 refine VC.bo Z (fun k3=>?_) (fun k3=>CK ?_)
 ·have hE:=bN.pE (S:=S) (c:=c) (seq:=seq) (o:=o) (.inr (.inr (.inr k3)))
  refine aJ ?_
  exact Ul
 have hn:¬(c<0∨6≤c∨seq<1∨a6 o≠0):=by
  rintro(h | h | h | h)
  ·exact k0 h
  ·exact k1 h
  ·exact k2 h
  ·exact h k3
 refine CS (VC.cq (σ:=Option Addr×Nat) (fun _=>[(0,pV p),(1,.int .i64 c),(2,.int .i64 seq),(7,pV ob)]) (fun y=>[pt p (ig S y.1 y.2) oa,aI oc 14 y.1 S.bz.length y.2 (flat recC S.bz),pt ob o.cells 31]) (fun _=>S.eY c seq o=0) ?_ ?_)
 ·refine aq ?_
  refine YI ?_
  rcases rZ ok c with ⟨e1,_⟩ | ⟨i,r,e1,e2,e3,e4⟩
  ·rw[show mK S a c=.pointer none by rw[mK,e1]]
   refine O0 ?_
   exact⟨(a,cap),bN.EL hn e1,ba,ER⟩
  have hE:=bN.EM hn e1
  refine VO.e_ 1 Z (aW.sl _ _ _ _ _ _) ?_
  rintro(_ | ⟨mb,rest⟩) ⟨x1,x2,x3⟩
  ·obtain⟨_,h0,_⟩:=x3
   omega
  obtain⟨rfl,x4⟩:=x3
  rw[show mK S (some ⟨mb,0,none⟩) c=.pointer (some ⟨mb,0+i*14,none⟩) by rw[mK,e1];rfl]
  show VO _ _ _ _ _ [pt mb (flat recC S.bz++rest) oc,pt p (ig S (some ⟨mb,0,none⟩) cap) oa,pt ob o.cells 31] _
  have back:jq ⟨Tryz.prog,tab,ah,77,Fr,w⟩ [pt mb (flat recC S.bz++rest) oc,pt p (ig S (some ⟨mb,0,none⟩) cap) oa,pt ob o.cells 31] [pt p (ig S (some ⟨mb,0,none⟩) cap) oa,aI oc 14 (some ⟨mb,0,none⟩) S.bz.length cap (flat recC S.bz),pt ob o.cells 31]:=(IP 1 rfl (ae.sl x1 x2 x4 ae.refl)).ar
  have c7:(flat recC S.bz++rest)[0+i*14+7]?=some (.int .i64 r.toQ):=by rw[ZQ];exact fH iV e2 rfl rest
  have c1:(flat recC S.bz++rest)[0+i*14+1]?=some (.int .i64 r.seq):=by rw[ZQ];exact fH iV e2 rfl rest
  refine PI ?_
  refine VG (VO.load Z Z (aE.one 0 Z c7) ?_)
  refine aq ?_
  refine CP (p:=r.toQ<0) Z (fun j=>?_) (fun j=>CK ?_)
  ·have hE2:S.eY c seq o=63:=by rw[hE,if_pos j]
   refine CN back ?_
   refine aq ?_
   exact YJ
  refine aq ?_
  refine VG (VO.load Z Z (aE.one 0 Z c1) ?_)
  refine aq ?_
  refine CP (p:=seq≤r.seq) Z (fun j2=>?_) (fun j2=>CK ?_)
  ·have hE2:S.eY c seq o=70:=by rw[hE,if_neg j,if_pos j2]
   refine CN back ?_
   refine aq ?_
   exact YJ
  exact⟨(some ⟨mb,0,none⟩,cap),by rw[hE,if_neg j,if_neg j2],ba,back⟩
 rintro⟨a,cap⟩ hE
 dsimp only
 have hc:=bN.Oe hE
 obtain⟨k,rfl,hk,hx,g1,g2⟩:=ok.at (c:=c) ⟨by omega,by omega⟩
 refine CS (CD (ts 0 13 (.only 13 (.only 14 (ts 15 2 (.only 17 .nil))))) yn yr ?_)
 refine qg ?_
 refine AG (VA.ky 2 o.cells Z Z Z Z Z ?_)
 refine qg ?_
 refine AG (AI Z (LB (pv:=[(0,.int .i64 k),(1,.int .i64 seq),(2,.agg o.cells.toArray),(3,.int .i64 S.events),(4,.int .i64 (-1))]) (recC (AX S k seq o)) Z Z Z yn Z) ?_)
 refine AG (AO (a8.buildSlice (n:=1) (pv:=[(0,.agg (recC (AX S k seq o)).toArray)]) (cells:=recC (AX S k seq o)) Z Z Z Z yp (bJ Z Z Z)) Z ?_ ?_)
 ·rintro _ _ ⟨nb,rfl,rfl⟩
  exact yu
 rintro _ _ ⟨nb,rfl,rfl⟩
 refine AG (AO (a8.append (m:=1) (news:=recC (AX S k seq o)) 2 Z Z Z Z Z Z Z (dt.pt 0 Z Z Z) Z (by show(S.bz.length+1)*136≤_;omega) yd) Z ?_ ?_)
 ·rintro _ _ ⟨a1,c1,rfl,hc1,rfl⟩
  exact yu
 rintro _ _ ⟨a1,c1,rfl,hc1,rfl⟩
 refine t_ ?_
 have e1:S.bz.length+1=(S.bz ++ [AX S k seq o]).length:=by rw[ZM];rfl
 refine AG (VA.st 2 (cs':=ig { S with bz:=S.bz ++ [AX S k seq o] } a1 c1) Z Z Z Z Z (by rw[FQ ok];decide) (by rw[e1];rfl) Z yu ?_)
 refine jo ?_
 generalize hS1:({ S with bz:=S.bz ++ [AX S k seq o] }:bN)=S1
 have l1:S1.bz=S.bz ++ [AX S k seq o]:=by rw[←hS1]
 have l2:S1.last=S.last:=by rw[←hS1]
 have l3:S1.events=S.events:=by rw[←hS1]
 refine CN (L':=[pt p (ig S1 a1 c1) oa,aI oc 14 a1 S1.bz.length c1 (flat recC S1.bz),pt ob o.cells 31]) ?_ ?_
 ·rw[l1,bf,vR,←e1]
  exact(dF [2,0,1]).ar
 refine U5 ?_
 refine qg ?_
 refine AG (AI Z (bG k Z Z Z Z Z Z hk) ?_)
 refine AG (VA.st 0 (cs':=ig { S1 with last:=S1.last.set k S1.bz.length } a1 c1) Z Z Z Z Z (by show 0+3+k*1<(_::_::_::S1.last.map _).length;rw[l2];simp[ok.ll];omega) (by show(ig S1 a1 c1).set (0+3+k*1) _=_;rw[show 0+3+k*1=3+k from by omega];exact Od _) Z yu ?_)
 refine jo ?_
 refine CN (L':=[pt p (ig { S1 with last:=S1.last.set k S1.bz.length } a1 c1) oa,aI oc 14 a1 S1.bz.length c1 (flat recC S1.bz)]) (dF [0,0]).ar ?_
 refine an ?_
 refine VG (VP Z Z tZ tZ ?_)
 refine aq ?_
 refine VG (VO.st 0 (cs':=ig { S1 with last:=S1.last.set k S1.bz.length,events:=S1.events+1 } a1 c1) Z Z Z Z (by show 2<(_::_::_::(S1.last.set k _).map _).length;simp) Z Z ?_)
 refine aq ?_
 refine CR (ay.tmp 8 Z Z (L':=[kN p { S1 with last:=S1.last.set k S1.bz.length,events:=S1.events+1 }]) (ae.gD (S:={ S1 with last:=S1.last.set k S1.bz.length,events:=S1.events+1 }) (K:=[]) (a1,c1) ae.refl).ar ⟨by rw[hE],?_⟩)
 rw[hc,l1,l2,l3,←e1,ZU]
 rfl
end
end Cl
namespace Cl
open Go Vg T Api Ch Rep
attribute [local irreducible] VO VC VA
theorem Tj{B R vs:List Value}{o j n:Nat}(hR:(B.drop o).take n=R)(hn:R.length=n)(hj:j+vs.length≤n)(ho:o≤B.length):ki B (o+j) vs=ki B o (ki R j vs):=by
 have hB:B.drop o=R++B.drop (o+n):=by rw[←hR,←List.drop_drop,List.take_append_drop]
 have h1:(ki R j vs).length=n:=by unfold ki;simp;omega
 have h2:B.take (o+j)=B.take o++R.take j:=by
  rw[List.take_add,hB,List.take_append_of_le_length yd]
 have h3:B.drop (o+j+vs.length)=R.drop (j+vs.length)++B.drop (o+n):=by
  rw[Nat.add_assoc,←List.drop_drop,hB,List.drop_append_of_le_length yd]
 unfold ki at h1 ⊢
 rw[h1,h2,h3]
 simp
theorem Of{α:Type}{c:α→List Value}{n:Nat}(h:∀a,(c a).length=n){i j:Nat}{l:List α}{a a':α}{vs:List Value}(ha:l[i]?=some a)(hj:j+vs.length≤n)(hc:ki (c a) j vs=c a')(rest:List Value):ki (flat c l++rest) (i*n+j) vs=flat c (l.set i a')++rest:=by
 have hi:i<l.length:=(ZP.1 ha).1
 have hle:i*n≤l.length*n:=Nat.mul_le_mul_right n (Nat.le_of_lt hi)
 rw[←lZ h a' rest hi,←hc]
 exact Tj (fG h ha rest) (h a) hj (by rw[ZM,bp h];omega)
section
variable {p:Nat} {S:bN}
def bN.xe(h:bN)(c seq:Int)(o:gr):Int:=
 if o.kind≠1∧o.kind≠2∧o.kind≠3 then 2
 else match h.dd c with
  | none=>4
  | some (i,r)=>if r.seq≠seq∨0≤r.toQ then 4 else 0
def CU(S:bN)(r:RecM)(o:gr):RecM:={ r with toQ:=S.events,out:=o }
theorem bN.Og{c seq:Int}{o:gr}(h:o.kind≠1∧o.kind≠2∧o.kind≠3):S.end_ c seq o=S∧S.xe c seq o=2:=by unfold bN.end_ bN.xe;rw[if_pos h,if_pos h];exact⟨rfl,rfl⟩
theorem bN.JH{c seq:Int}{o:gr}(h:¬(o.kind≠1∧o.kind≠2∧o.kind≠3))(h2:S.dd c=none):S.end_ c seq o=S∧S.xe c seq o=4:=by unfold bN.end_ bN.xe;rw[if_neg h,if_neg h,h2];exact⟨rfl,rfl⟩
theorem bN.JI{c seq:Int}{o:gr}{i:Nat}{r:RecM}(h:¬(o.kind≠1∧o.kind≠2∧o.kind≠3))(h2:S.dd c=some (i,r))(h3:r.seq≠seq∨0≤r.toQ):S.end_ c seq o=S∧S.xe c seq o=4:=by
 unfold bN.end_ bN.xe;rw[if_neg h,if_neg h,h2];dsimp only;rw[if_pos h3,if_pos h3];exact⟨rfl,rfl⟩
theorem bN.QY{c seq:Int}{o:gr}{i:Nat}{r:RecM}(h:¬(o.kind≠1∧o.kind≠2∧o.kind≠3))(h2:S.dd c=some (i,r))(h3:¬(r.seq≠seq∨0≤r.toQ)):S.end_ c seq o={ S with bz:=S.bz.set i (CU S r o),events:=S.events+1 }∧S.xe c seq o=0:=by
 unfold bN.end_ bN.xe;rw[if_neg h,if_neg h,h2];dsimp only;rw[if_neg h3,if_neg h3];exact⟨rfl,rfl⟩
theorem bN.Ok.end_(ok:S.Ok)(h2:S.events<10000000)(c seq:Int)(o:gr):(S.end_ c seq o).Ok:=by
 have:=ok.e0
 unfold bN.end_
 split
 ·exact ok
 split
 ·exact ok
 split
 ·exact ok
 refine⟨by show(S.bz.set _ _).length≤_;rw[Z4];exact ok.rl,by show 0≤S.events+1;omega,by show S.events+1≤_;omega,ok.ll,fun x hx=>?_⟩
 show 0≤x∧x≤((S.bz.set _ _).length:Int)
 rw[Z4]
 exact ok.lr x hx
theorem Ht(ok:S.Ok)(h2:S.events<10000000)(c seq:Int)(o:gr):aH Tryz.prog 70 [.pointer (some ⟨p,0,none⟩),.int .i64 c,.int .i64 seq,.agg (eN o).toArray] Fr w [kN p S]
  (fun v L=>v=.int .i64 (S.xe c seq o)∧L=[kN p (S.end_ c seq o)]):=by
 have hrl:=ok.rl
 have he0:=ok.e0
 refine TF 63 Tryz.func70 Z yn ah Z Z ?_
 refine VC.e_ 0 Z (aW.gD p S) ?_
 rintro⟨a,cap⟩ -
 show VC _ _ _ [pt p (ig S a cap) oa,aI oc 14 a S.bz.length cap (flat recC S.bz)] _
 refine CS (CG (VG (VB (vs:=eN o) Z fun ob=>VO.ar (L':=[pt p (ig S a cap) oa,aI oc 14 a S.bz.length cap (flat recC S.bz),pt ob (eN o) 155]) (dF [1,1,0]).ar ?_)))
 have fin:jq ⟨Tryz.prog,tab,ah,63,Fr,w⟩ [pt p (ig S a cap) oa,aI oc 14 a S.bz.length cap (flat recC S.bz),pt ob (eN o) 155] [kN p S]:=(ae.gD (K:=[]) (a,cap) (dF [0,0])).ar
 refine aq ?_
 refine VG (VV (fun Fr w hF hw hS=>vW Fr w (hS.aP 0 Z)) Z ?_)
 refine O0 ?_
 refine CS (VC.cq (σ:=Unit) (fun _=>[(0,pV p),(1,.int .i64 c),(2,.int .i64 seq),(7,pV ob)]) (fun _=>[pt p (ig S a cap) oa,aI oc 14 a S.bz.length cap (flat recC S.bz),pt ob (eN o) 155]) (fun _=>¬(o.kind≠1∧o.kind≠2∧o.kind≠3)) ?_ ?_)
 ·refine pQ ?_
  by_cases k1:o.kind=1
  ·refine VG (VY 15 false Z (by simp[k1]) ?_)
   refine pQ ?_
   refine VG (VY 20 false Z Z ?_)
   refine pQ ?_
   refine sk ?_
   exact⟨(),fun h=>h.1 k1,ba,ER⟩
  refine VG (VY 15 true Z (by simp[k1]) ?_)
  refine pQ ?_
  by_cases k2:o.kind=2
  ·refine VG (VY 20 false Z (by simp[k2]) ?_)
   refine pQ ?_
   refine sk ?_
   exact⟨(),fun h=>h.2.1 k2,ba,ER⟩
  refine VG (VY 20 true Z (by simp[k2]) ?_)
  refine pQ ?_
  refine VC.bo Z (fun k3=>?_) (fun k3=>CK ?_)
  ·obtain⟨g1,g2⟩:=bN.Og (S:=S) (c:=c) (seq:=seq) (o:=o) ⟨k1,k2,k3⟩
   refine aJ ?_
   exact Um
  exact⟨(),fun h=>h.2.2 k3,ba,ER⟩
 rintro-hk
 refine aq ?_
 refine YI ?_
 rcases rZ ok c with ⟨e1,_⟩ | ⟨i,r,e1,e2,e3,e4⟩
 ·obtain⟨g1,g2⟩:=bN.JH (seq:=seq) hk e1
  rw[show mK S a c=.pointer none by rw[mK,e1]]
  refine aJ ?_
  refine VG (VY 30 true Z Z ?_)
  refine aJ ?_
  refine VG (VY 38 true Z Z ?_)
  refine wI ?_
  exact Um
 refine VO.e_ 1 Z (aW.sl _ _ _ _ _ _) ?_
 rintro(_ | ⟨mb,rest⟩) ⟨x1,x2,x3⟩
 ·obtain⟨_,h0,_⟩:=x3
  omega
 obtain⟨rfl,x4⟩:=x3
 rw[show mK S (some ⟨mb,0,none⟩) c=.pointer (some ⟨mb,0+i*14,none⟩) by rw[mK,e1];rfl]
 show VO _ _ _ _ _ [pt mb (flat recC S.bz++rest) oc,pt p (ig S (some ⟨mb,0,none⟩) cap) oa,pt ob (eN o) 155] _
 have back:jq ⟨Tryz.prog,tab,ah,63,Fr,w⟩ [pt mb (flat recC S.bz++rest) oc,pt p (ig S (some ⟨mb,0,none⟩) cap) oa,pt ob (eN o) 155] [pt p (ig S (some ⟨mb,0,none⟩) cap) oa,aI oc 14 (some ⟨mb,0,none⟩) S.bz.length cap (flat recC S.bz),pt ob (eN o) 155]:=(IP 1 rfl (ae.sl x1 x2 x4 ae.refl)).ar
 have c7:(flat recC S.bz++rest)[0+i*14+7]?=some (.int .i64 r.toQ):=by rw[ZQ];exact fH iV e2 rfl rest
 have c1:(flat recC S.bz++rest)[0+i*14+1]?=some (.int .i64 r.seq):=by rw[ZQ];exact fH iV e2 rfl rest
 refine aJ ?_
 refine VG (VY 30 false Z Z ?_)
 refine aJ ?_
 refine VG (VO.load Z Z (aE.one 0 Z c1) ?_)
 refine aJ ?_
 by_cases j1:r.seq=seq
 rotate_left
 ·obtain⟨g1,g2⟩:=bN.JI hk e1 (.inl j1)
  refine VG (VY 38 true Z (by simp[j1]) ?_)
  refine KK ?_
  refine CN back ?_
  refine aJ ?_
  exact Um
 refine VG (VY 38 false Z (by simp[j1]) ?_)
 refine aJ ?_
 refine VG (VO.load Z Z (aE.one 0 Z c7) ?_)
 refine aJ ?_
 refine CP (p:=0≤r.toQ) Z (fun j2=>?_) (fun j2=>CK ?_)
 ·obtain⟨g1,g2⟩:=bN.JI hk e1 (seq:=seq) (.inr j2)
  refine CN back ?_
  refine aJ ?_
  exact Um
 obtain⟨g1,g2⟩:=bN.QY hk e1 (o:=o) (seq:=seq) (by rintro(h | h);exact h j1;exact j2 h)
 refine CS (CD (ts 0 9 (.only 9 (ts 10 2 (.only 12 .nil)))) yn yr ?_)
 refine qg ?_
 refine AG (VA.ky 2 (eN o) Z Z Z Z Z ?_)
 refine qg ?_
 have hfl:∀x:RecM,((flat recC (S.bz.set i x)).length:Nat)=S.bz.length*14:=fun x=>by rw[bp iV,Z4]
 have hfl0:=bp iV S.bz
 have hi14:(i+1)*14≤S.bz.length*14:=Nat.mul_le_mul_right 14 e4
 refine AG (VA.st 0 (cs':=flat recC (S.bz.set i { r with toQ:=S.events })++rest) Z Z Z Z Z (by rw[ZM,hfl0];omega) (by rw[ZQ];exact gF iV e2 yp Z rest) Z yu ?_)
 refine jo ?_
 refine AG (AT (vs:=eN o) (cs':=flat recC (S.bz.set i (CU S r o))++rest) 0 Z Z Z Z Z (by rw[ZM,hfl];show 0+i*14+8+6≤_;omega) (by rw[ZQ,Of (a:={ r with toQ:=S.events }) (a':=CU S r o) iV (Z9 e4) (by show 8+6≤14;decide) Z rest,List.set_set]) Z Z yu ?_)
 refine jo ?_
 refine jd ?_
 refine Gd ?_
 refine aq ?_
 refine VG (VO.st 1 (cs':=ig { S with events:=S.events+1 } (some ⟨mb,0,none⟩) cap) Z Z Z Z (by rw[FQ ok];decide) Z Z ?_)
 refine aq ?_
 refine CR (ay.tmp 8 Z Z (L':=[kN p { S with bz:=S.bz.set i (CU S r o),events:=S.events+1 }]) ?_ ⟨by rw[g2],by rw[g1]⟩)
 refine(ae.gD (S:={ S with bz:=S.bz.set i (CU S r o),events:=S.events+1 }) (K:=[]) (some ⟨mb,0,none⟩,cap) ?_).ar
 show ae _ [pt p ([.bool true,.slice (some ⟨mb,0,none⟩) (S.bz.set i (CU S r o)).length cap,.int .i64 (S.events+1)]++S.last.map (Value.int .i64)) oa,aI oc 14 (some ⟨mb,0,none⟩) (S.bz.set i (CU S r o)).length cap (flat recC (S.bz.set i (CU S r o)))]
 rw[Z4]
 exact IP 1 Z (ae.sl (hfl _) x2 (by rw[ZM,hfl];rw[ZM,hfl0] at x4;exact x4) (IP 0 Z ae.nil))
end
end Cl
end Go.Proofs.YthnlpdacbcjgpaaGreatDoor
