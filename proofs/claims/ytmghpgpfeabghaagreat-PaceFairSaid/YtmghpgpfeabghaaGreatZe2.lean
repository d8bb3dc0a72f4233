/- Texts of the proof, put together and shortened. No condition. -/
import Derived.Test.YtmghpgpfeabghaaGreatZe1
set_option maxRecDepth 100000
set_option maxHeartbeats 16000000
set_option linter.unusedVariables false
set_option linter.unusedSectionVars false
set_option linter.unusedSimpArgs false
namespace Go.Proofs.YtmghpgpfeabghaaGreat
variable (Fr : Nat → Prop) (w : World)
namespace Cl
open Go Vg Api Ch
def valB(k:Int):Bool:=decide (k=2)||decide (k=4)
def opB(o:OpM):Bs:=intB o.kind++textB (sB o.key)++(if valB o.kind then textB (sB o.value) else [])++(if o.kind=4 then intB o.version else [])
def chB(c:ChM):Bs:=intB c.epoch++intB c.ms.length++c.ms.flatMap (fun m=>intB m.1++intB m.2)++intB c.drain
def inN(n:Int):Bool:=decide (0≤n∧n≤1099511627776)
def offs(k:Int):List Nat:=
 if k=1 then [1,2,3,4,5,6] else if k=2 then [2,3,4] else if k=3 then [1,2,3,4,15] else if k=4∨k=12 then [1] else if k=5 then [1,26,27,28]
 else if k=6∨k=9∨k=10∨k=11 then [1,26] else []
def numF(f:FrameM):Nat→Int
 | 1=>f.epoch | 2=>f.client | 3=>f.seq | 4=>f.try_ | 5=>f.cls | 6=>f.deadline | 15=>f.reason | 26=>f.index | 27=>f.grant | 28=>f.have_ | _=>0
def setF(f:FrameM)(o:Nat)(n:Int):FrameM:=match o with
 | 1=>{ f with epoch:=n } | 2=>{ f with client:=n } | 3=>{ f with seq:=n } | 4=>{ f with try_:=n } | 5=>{ f with cls:=n } | 6=>{ f with deadline:=n }
 | 15=>{ f with reason:=n } | 26=>{ f with index:=n } | 27=>{ f with grant:=n } | 28=>{ f with have_:=n } | _=>f
def isOff(o:Nat):Bool:=decide (o∈[1,2,3,4,5,6,15,26,27,28])
theorem offs_is(k:Int):∀o∈offs k,isOff o=true:=by
 unfold offs
 repeat' split
 all_goals decide
theorem offs_len(k:Int):(offs k).length≤6:=by
 unfold offs
 repeat' split
 all_goals decide
def mayB(f:FrameM)(ms:List MemM):Bool:=
 if f.kind=1 then decide (opCheck f.op=0)
 else if f.kind=2 then decide (1≤f.res.code)&&decide (f.res.code≤3)&&decide (f.res.value.size≤64)&&(inN f.res.version&&inN f.res.at_)
 else if f.kind=4 then (inN f.entry.index&&(inN f.entry.client&&inN f.entry.seq))&&decide (opCheck f.entry.op=0)
 else if f.kind=8 then decide (chE ⟨f.cepoch,ms,f.drain⟩=0)
 else true
def mayM(f:FrameM)(ms:List MemM):Bool:=decide (1≤f.kind∧f.kind≤12)&&((offs f.kind).all (fun o=>inN (numF f o))&&mayB f ms)
def behB(f:FrameM)(ms:List MemM):Bs:=
 if f.kind=1 then opB f.op
 else if f.kind=2 then intB f.res.code++textB (sB f.res.value)++intB f.res.version++intB f.res.at_
 else if f.kind=4 then intB f.entry.index++intB f.entry.client++intB f.entry.seq++opB f.entry.op
 else if f.kind=8 then chB ⟨f.cepoch,ms,f.drain⟩
 else []
def putB(f:FrameM)(ms:List MemM):Bs:=(intB f.kind++(offs f.kind).flatMap (fun o=>intB (numF f o)))++behB f ms
def putM(f:FrameM)(ms:List MemM):Option Bs:=if mayM f ms=true then (if 512<(putB f ms).length then none else some (putB f ms)) else none
def intsB:Nat→Bs→Option (List Int×Bs)
 | 0,s=>some ([],s)
 | k+1,s=>match unintB s with
  | none=>none
  | some (n,r)=>match intsB k r with
   | none=>none
   | some (l,r)=>some (n::l,r)
def getO(s:Bs):Option OpM:=match unintB s with
 | none=>none
 | some (k,r)=>match cutB r with
  | none=>none
  | some (key,r)=>match (if valB k then cutB r else some ([],r)) with
   | none=>none
   | some (val,r)=>match (if k=4 then unintB r else some (0,r)) with
    | none=>none
    | some (ver,r)=>if r=[]∧opCheck ⟨k,bT key,bT val,ver⟩=0 then some ⟨k,bT key,bT val,ver⟩ else none
def memsOf:List Int→List MemM
 | a::b::l=>(a,b)::memsOf l
 | _=>[]
def getCh(s:Bs):Option ChM:=match unintB s with
 | none=>none
 | some (ep,r)=>match unintB r with
  | none=>none
  | some (sz,r)=>if sz<1∨6<sz then none else match intsB (2*sz.toNat) r with
   | none=>none
   | some (l,r)=>match unintB r with
    | none=>none
    | some (dr,r)=>if r=[]∧chE ⟨ep,memsOf l,dr⟩=0 then some ⟨ep,memsOf l,dr⟩ else none
def setFs(f:FrameM):List Nat→List Int→FrameM
 | o::os,n::ns=>setFs (setF f o n) os ns
 | _,_=>f
def readF(f:FrameM)(s:Bs):Option (FrameM×List MemM):=
 if f.kind=1 then match getO s with
  | none=>none
  | some o=>some ({ f with op:=o },[])
 else if f.kind=2 then match unintB s with
  | none=>none
  | some (code,r)=>match cutB r with
   | none=>none
   | some (val,r)=>match unintB r with
    | none=>none
    | some (ver,r)=>match unintB r with
     | none=>none
     | some (at_,r)=>if r=[] then some ({ f with res:=⟨code,bT val,ver,at_⟩ },[]) else none
 else if f.kind=4 then match unintB s with
  | none=>none
  | some (i,r)=>match unintB r with
   | none=>none
   | some (c,r)=>match unintB r with
    | none=>none
    | some (q,r)=>match getO r with
     | none=>none
     | some o=>some ({ f with entry:=⟨i,c,q,o⟩ },[])
 else if f.kind=8 then match getCh s with
  | none=>none
  | some c=>some ({ f with cepoch:=c.epoch,drain:=c.drain },c.ms)
 else if s=[] then some (f,[]) else none
def getM(s:Bs):Option (FrameM×List MemM):=if 512<s.length then none else match unintB s with
 | none=>none
 | some (k,r)=>match intsB (offs k).length r with
  | none=>none
  | some (l,r)=>match readF (setFs { FrameM.zero with kind:=k } (offs k) l) r with
   | none=>none
   | some (f,ms)=>if mayM f ms=true then some (f,ms) else none
end Cl
namespace Win
open Go Vg T Api
attribute [local irreducible] VO VC VA
structure WinM where
 cap:Int
 last:Int
 done:Int
 sent:Int
 limit:Int
def WinM.cells(W:WinM):List Value:=[.int .i64 W.cap,.int .i64 W.last,.int .i64 W.done,.int .i64 W.sent,.int .i64 W.limit]
abbrev winT:TypeId:=165
def winH(p:Nat)(W:WinM):HP:=pt p W.cells winT
structure WinM.Ok(W:WinM):Prop where
 cap0:1≤W.cap
 cap1:W.cap≤16
 done0:0≤W.done
 done1:W.done≤W.last
 last1:W.last≤4096
 sent0:0≤W.sent
 sent1:W.sent≤W.last
 lim0:0≤W.limit
 lim1:W.limit≤4112
section
variable {p:Nat} {W:WinM}
theorem none_spec(h:Blk Fr w p W.cells)(hc:1≤W.cap):Tri Tryz.prog 96 [.pointer (some ⟨p,0,none⟩)] Fr w [] (fun v L=>v=.bool false∧L=[]):=by
 refine TF 12 Tryz.func96 rfl ym tabOk rfl rfl ?_
 refine xdf ?_
 refine VG (VO.split 5 rfl rfl (fun h=>by cases h) (fun _=>?_))
 refine xej ?_
 exact xek
theorem last_spec(h:Blk Fr w p W.cells)(hc:1≤W.cap):Tri Tryz.prog 62 [.pointer (some ⟨p,0,none⟩)] Fr w [] (fun v L=>v=.int .i64 W.last∧L=[]):=by
 refine TF 9 Tryz.func62 rfl ym tabOk rfl rfl ?_
 refine xdf ?_
 refine xel ?_
 refine zon ?_
 refine xej ?_
 exact xem
theorem done_spec(h:Blk Fr w p W.cells)(hc:1≤W.cap):Tri Tryz.prog 61 [.pointer (some ⟨p,0,none⟩)] Fr w [] (fun v L=>v=.int .i64 W.done∧L=[]):=by
 refine TF 9 Tryz.func61 rfl ym tabOk rfl rfl ?_
 refine xdf ?_
 refine xel ?_
 refine zon ?_
 refine xej ?_
 exact xem
theorem offer_spec(h:Blk Fr w p W.cells)(ok:W.Ok):Tri Tryz.prog 163 [.pointer (some ⟨p,0,none⟩)] Fr w [] (fun v L=>v=.int .i64 (W.done+W.cap)∧L=[]):=by
 have o1:=ok.cap0;have o2:=ok.cap1;have o3:=ok.done0;have o4:=ok.done1;have o5:=ok.last1
 refine TF 14 Tryz.func163 rfl ym tabOk rfl rfl ?_
 refine xdf ?_
 refine VG (VV (fun Fr w hF hs _=>none_spec Fr w (h.of hF hs) o1) rfl ?_)
 refine zon ?_
 refine CS (CD (ts 0 10 .nil) ym yr ?_)
 refine xen ?_
 refine xeo ?_
 refine xeh ?_
 exact xem
theorem free_spec(h:Blk Fr w p W.cells)(ok:W.Ok):Tri Tryz.prog 117 [.pointer (some ⟨p,0,none⟩)] Fr w [] (fun v L=>v=.int .i64 (max (min (W.done+W.cap) 4096-W.last) 0)∧L=[]):=by
 have o1:=ok.cap0;have o2:=ok.cap1;have o3:=ok.done0;have o4:=ok.done1;have o5:=ok.last1
 refine TF 14 Tryz.func117 rfl ym tabOk rfl rfl ?_
 refine xdf ?_
 refine VG (VV (fun Fr w hF hs _=>none_spec Fr w (h.of hF hs) o1) rfl ?_)
 refine zon ?_
 refine CS (CD (.take 0 (ts 3 4 (.only 1 (.take 2 (ts 7 3 .nil))))) ym yr ?_)
 refine xen ?_
 refine AG (AR (fun Fr w hF hs hS=>offer_spec Fr w (h.of hF hs) ok) rfl rfl (by(try refine Pd.st ?_);(repeat(first|exact Pd.nil|exact Pd.fnil|refine Pd.inner ?_|refine Pd.skip yr ?_|refine zf (RdL.blk (RdL.blk h rfl) rfl) ?_|refine zf ((RdL.blk h rfl)) ?_|refine zc (RdL.blk (RdL.blk h rfl) rfl) ?_|refine zc ((RdL.blk h rfl)) ?_))) ?_)
 refine xen ?_
 refine AG (VA.sub' rfl rfl rfl (by split<;>omega) (by split<;>omega) ?_)
 refine xeh ?_
 exact CR (Ret.int 2 rfl rfl (by simp only[Int.min_def,Int.max_def];repeat' split<;>omega) ER ⟨rfl,rfl⟩)
def WinM.room(W:WinM):Bool:=decide (W.last<W.done+W.cap)&&decide (W.last<4096)
theorem push_spec(ok:W.Ok)(hr:W.room=true):Tri Tryz.prog 168 [.pointer (some ⟨p,0,none⟩)] Fr w [winH p W] (fun v L=>v=.bool true∧L=[winH p { W with last:=W.last+1 }]):=by
 have o1:=ok.cap0;have o2:=ok.cap1;have o3:=ok.done0;have o4:=ok.done1;have o5:=ok.last1
 have hr1:W.last<W.done+W.cap∧W.last<4096:=by simpa[WinM.room] using hr
 refine TF 13 Tryz.func168 rfl ym tabOk rfl rfl ?_
 unfold winH
 refine xdf ?_
 refine VG (VV (fun Fr w hF hs hS=>free_spec Fr w (hS.blk 0 rfl) ok) rfl ?_)
 refine xdf ?_
 refine CC (t:=false) (by simp only[Vg.ev,Vg.look];simp[Int.min_def,Int.max_def];split<;>constructor<;>omega) (fun hh=>by cases hh) (fun _=>CK ?_)
 refine zoo ?_
 refine VG (VO.st 0 (cs':=({ W with last:=W.last+1 }:WinM).cells) rfl rfl rfl rfl (Nat.le_of_ble_eq_true rfl) rfl rfl ?_)
 refine xdf ?_
 exact xep
def WinM.ackB(W:WinM)(i:Int):Bool:=decide (W.done<i)&&decide (i≤W.last)
def WinM.ack(W:WinM)(i:Int):WinM:=if W.ackB i then { W with done:=i } else W
theorem ack_spec(ok:W.Ok)(i:Int):Tri Tryz.prog 235 [.pointer (some ⟨p,0,none⟩),.int .i64 i] Fr w [winH p W] (fun v L=>v=.bool (W.ackB i)∧L=[winH p (W.ack i)]):=by
 have o1:=ok.cap0
 refine TF 27 Tryz.func235 rfl ym tabOk rfl rfl ?_
 unfold winH
 refine xdf ?_
 refine xeq ?_
 refine xdf ?_
 refine VG (VY 7 false rfl rfl ?_)
 refine xdn ?_
 by_cases h1:i≤W.done
 ·have hb:W.ackB i=false:=by simp[WinM.ackB];omega
  refine VG (VY 15 true rfl (DT h1) ?_)
  refine zpa ?_
  exact xer
 ·refine VG (VY 15 false rfl (DF h1) ?_)
  refine xdn ?_
  refine CP rfl (fun h2=>?_) (fun h2=>CK ?_)
  ·have hb:W.ackB i=false:=by simp[WinM.ackB];omega
   refine xdf ?_
   exact xer
  ·have hb:W.ackB i=true:=by simp[WinM.ackB];omega
   refine xdf ?_
   refine VG (VO.st 0 (cs':=({ W with done:=i }:WinM).cells) rfl rfl rfl rfl (Nat.le_of_ble_eq_true rfl) rfl rfl ?_)
   refine xdf ?_
   exact xer
theorem grant_spec(ok:W.Ok)(g:Int):Tri Tryz.prog 254 [.pointer (some ⟨p,0,none⟩),.int .i64 g] Fr w [winH p W] (fun v L=>v=.tuple #[]∧L=[winH p { W with limit:=max W.limit (min g 4112) }]):=by
 have o1:=ok.cap0
 refine TF 16 Tryz.func254 rfl ym tabOk rfl rfl ?_
 unfold winH
 refine xdf ?_
 refine xeq ?_
 refine zpb ?_
 refine VG (VO.st 0 (cs':=({ W with limit:=if W.limit<(if 4112<g then 4112 else g) then (if 4112<g then 4112 else g) else W.limit }:WinM).cells) rfl rfl rfl rfl (Nat.le_of_ble_eq_true rfl) rfl rfl ?_)
 refine xdf ?_
 exact Ret.void rfl ER ⟨rfl,by rw[show max W.limit (min g 4112)=(if W.limit<(if 4112<g then 4112 else g) then (if 4112<g then 4112 else g) else W.limit) by split<;>split<;>omega];rfl⟩
theorem back_spec(ok:W.Ok)(g:Int):Tri Tryz.prog 175 [.pointer (some ⟨p,0,none⟩),.int .i64 g] Fr w [winH p W] (fun v L=>v=.tuple #[]∧L=[winH p { W with sent:=min (max g 0) W.last }]):=by
 have o1:=ok.cap0
 refine TF 16 Tryz.func175 rfl ym tabOk rfl rfl ?_
 unfold winH
 refine xdf ?_
 refine xeq ?_
 refine zpb ?_
 refine VG (VO.st 0 (cs':=({ W with sent:=if W.last<(if g<0 then 0 else g) then W.last else (if g<0 then 0 else g) }:WinM).cells) rfl rfl rfl rfl (Nat.le_of_ble_eq_true rfl) rfl rfl ?_)
 refine xdf ?_
 exact Ret.void rfl ER ⟨rfl,by rw[show min (max g 0) W.last=(if W.last<(if g<0 then 0 else g) then W.last else (if g<0 then 0 else g)) by split<;>split<;>omega];rfl⟩
theorem renew_spec(ok:W.Ok):Tri Tryz.prog 252 [.pointer (some ⟨p,0,none⟩)] Fr w [winH p W] (fun v L=>v=.tuple #[]∧L=[winH p { W with sent:=W.last,limit:=0 }]):=by
 have o1:=ok.cap0
 refine TF 14 Tryz.func252 rfl ym tabOk rfl rfl ?_
 unfold winH
 refine xdf ?_
 refine xeq ?_
 refine zpb ?_
 refine VG (VO.st 0 (cs':=({ W with sent:=W.last }:WinM).cells) rfl rfl rfl rfl (Nat.le_of_ble_eq_true rfl) rfl rfl ?_)
 refine xdf ?_
 refine VG (VO.st 0 (cs':=({ W with sent:=W.last,limit:=0 }:WinM).cells) rfl rfl rfl rfl (Nat.le_of_ble_eq_true rfl) rfl rfl ?_)
 refine xdf ?_
 exact xes
def WinM.nextB(W:WinM):Bool:=decide (W.sent<W.last)&&decide (W.sent<W.limit)
def WinM.next(W:WinM):WinM:=if W.nextB then { W with sent:=W.sent+1 } else W
theorem next_spec(ok:W.Ok):Tri Tryz.prog 171 [.pointer (some ⟨p,0,none⟩)] Fr w [winH p W] (fun v L=>v=.tuple #[.int .i64 (if W.nextB then W.sent+1 else 0),.bool W.nextB]∧L=[winH p W.next]):=by
 have o1:=ok.cap0;have o2:=ok.sent0;have o3:=ok.sent1;have o4:=ok.last1
 refine TF 39 Tryz.func171 rfl ym tabOk rfl rfl ?_
 unfold winH
 refine xet ?_
 refine CS (CS (CD (.take 0 (.only 1 (ts 2 22 .nil))) ym yr ?_))
 refine xeh ?_
 refine AG (AR (fun Fr w hF hs hS=>none_spec Fr w (hS.blk 0 rfl) o1) rfl rfl yu ?_)
 refine xeh ?_
 refine AG (AY 6 false rfl rfl ?_)
 refine xeu ?_
 by_cases h1:W.last≤W.sent
 ·have hb:W.nextB=false:=by simp[WinM.nextB];omega
  refine AG (AY 17 true rfl (DT h1) ?_)
  refine xeu ?_
  refine zoq ?_
  exact xev
 ·refine AG (AY 17 false rfl (DF h1) ?_)
  refine xeu ?_
  refine CP rfl (fun h2=>?_) (fun h2=>CK ?_)
  ·have hb:W.nextB=false:=by simp[WinM.nextB];omega
   refine xdf ?_
   exact xev
  ·have hb:W.nextB=true:=by simp[WinM.nextB];omega
   refine zoo ?_
   refine VG (VO.st 0 (cs':=({ W with sent:=W.sent+1 }:WinM).cells) rfl rfl rfl rfl (Nat.le_of_ble_eq_true rfl) rfl rfl ?_)
   refine xdf ?_
   exact xev
theorem copy_spec(h:Blk Fr w p W.cells)(hc:1≤W.cap):Tri Tryz.prog 95 [.pointer (some ⟨p,0,none⟩)] Fr w [] (fun v L=>∃q,v=.pointer (some ⟨q,0,none⟩)∧L=[winH q W]):=by
 refine TF 9 Tryz.func95 rfl ym tabOk rfl rfl ?_
 refine xdf ?_
 refine xel ?_
 refine zpb ?_
 refine VG (VO.load rfl rfl (RdL.blkA (ds:=W.cells) h rfl) ?_)
 refine VG (VO.alloc rfl fun q=>?_)
 refine VG (VT (vs:=W.cells) 0 rfl rfl rfl rfl (NR _) rfl rfl rfl ?_)
 refine xdf ?_
 exact xew
end
def WinM.new(cap:Int):WinM:=⟨cap,0,0,0,0⟩
theorem new_spec{c:Int}(h0:1≤c)(h1:c≤16):Tri Tryz.prog 67 [.int .i64 c,.int .i64 0,.int .i64 0] Fr w [] (fun v L=>∃q,v=.tuple #[.pointer (some ⟨q,0,none⟩),.int .i64 0]∧L=[winH q (WinM.new c)]):=by
 refine TF 33 Tryz.func67 rfl ym tabOk rfl rfl ?_
 refine xdf ?_
 refine VG (VY 10 false rfl (DF yd) ?_)
 refine xdn ?_
 refine VG (VY 14 false rfl (DF yd) ?_)
 refine xdn ?_
 refine VG (VY 18 false rfl rfl ?_)
 refine xdn ?_
 refine VG (VY 23 false rfl rfl ?_)
 refine zph ?_
 refine xdf ?_
 refine VG (VI (LB (pv:=[(0,.int .i64 c),(1,.int .i64 0),(2,.int .i64 0),(3,.int .i64 0)]) (WinM.new c).cells rfl rfl rfl ym rfl) ?_)
 refine VG (VB (vs:=(WinM.new c).cells) rfl fun q=>?_)
 refine xdf ?_
 exact CR (Ret.tmp2 6 7 rfl rfl rfl ER ⟨q,rfl,rfl⟩)
theorem WinM.new_ok{c:Int}(h0:1≤c)(h1:c≤16):(WinM.new c).Ok:=⟨h0,h1,Int.le_refl _,Int.le_refl _,(by decide:(0:Int)≤4096),Int.le_refl _,Int.le_refl _,Int.le_refl _,(by decide:(0:Int)≤4112)⟩
end Win
namespace Kv
open Go Vg T Api
attribute [local irreducible] VO VC VA
abbrev KvM:=List (ByteArray×(ByteArray×Int))
def cellV(x:ByteArray×Int):Value:=.agg ([.string x.1,.int .i64 x.2]:List Value).toArray
def resC(r:ResM):List Value:=[.int .i64 r.code,.string r.value,.int .i64 r.version,.int .i64 r.at_]
def nilB:ByteArray:=⟨#[]⟩
def resZ:ResM:=⟨0,nilB,0,0⟩
def kvH(p:Nat)(S:KvM):HP:=hex fun b:Nat=>hsep [pt p [.map (some b)] 231,mapH strV cellV b S]
theorem kv_in{Fr:Nat→Prop}{w:World}{p:Nat}{S:KvM}(h:SatIn Fr [kvH p S] w):∃b,Blk Fr w p [.map (some b)]∧MapBlk Fr w strV cellV b S:=by
 obtain⟨b,hb⟩:=h.ex
 have hs:=hb.sep
 exact⟨b,hs.blk 0 rfl,hs.mapBlk 1 rfl⟩
theorem HOpn.kv(p:Nat)(S:KvM):HOpn (ι:=Nat) (kvH p S) (fun _=>True) (fun b=>[pt p [.map (some b)] 231,mapH strV cellV b S]):=fun w ids ⟨b,h⟩ hn=>⟨b,trivial,ids,h,hn,fun _ h=>h⟩
theorem Imp.kv{L M:List HP}{p b:Nat}{S:KvM}(h:Imp L (pt p [.map (some b)] 231::mapH strV cellV b S::M)):Imp L (kvH p S::M):=
 Imp.ex (f:=fun b:Nat=>hsep [pt p [.map (some b)] 231,mapH strV cellV b S]) b (Imp.sep (Ls:=[pt p [.map (some b)] 231,mapH strV cellV b S]) h)
theorem SatIn.kv{Fr:Nat→Prop}{L:List HP}{w:World}{p b:Nat}{S:KvM}(h:SatIn Fr L w)(i j:Nat)(hi:L[i]?=some (pt p [.map (some b)] 231))(hj:L[j]?=some (mapH strV cellV b S)):SatIn Fr [kvH p S] w:=by
 obtain⟨F,hs,hf⟩:=h
 obtain⟨ids1,s1,m1⟩:=hs.get hi
 obtain⟨ids2,s2,m2⟩:=hs.get hj
 refine⟨ids1++ids2,⟨ids1++ids2,[],by simp,⟨b,ids1,ids2,rfl,s1,ids2,[],by simp,s2,rfl⟩,rfl⟩,fun c hc=>?_⟩
 rcases List.mem_append.1 hc with hc | hc
 ·exact hf c (m1 c hc)
 ·exact hf c (m2 c hc)
theorem keyS:KeyOk Tryz.prog 9 strV:=KeyOk.string Tryz.underlying9
def kvLook(S:KvM)(k:ByteArray)(at_:Int):ResM:=match mGet S k with
 | none=>⟨2,nilB,0,at_⟩
 | some (v,n)=>⟨1,v,n,at_⟩
def kvApply(S:KvM)(i:Int)(o:OpM):KvM×ResM:=
 if i<1∨4096<i∨opCheck o≠0 then (S,resZ)
 else if o.kind=1 then (S,kvLook S o.key i)
 else if o.kind=3 then match mGet S o.key with
  | none=>(S,⟨2,nilB,0,i⟩)
  | some _=>(mDel S o.key,⟨1,nilB,0,i⟩)
 else if o.kind=4∧((mGet S o.key).getD (nilB,0)).2≠o.version then (S,⟨3,((mGet S o.key).getD (nilB,0)).1,((mGet S o.key).getD (nilB,0)).2,i⟩)
 else (mPut S o.key (o.value,i),⟨1,nilB,i,i⟩)
theorem reads_spec(o:OpM):Tri Tryz.prog 188 [.agg o.cells.toArray] Fr w [] (fun v L=>v=.bool (decide (o.kind=1)&&decide (opCheck o=0))∧L=[]):=by
 refine TF 11 Tryz.func188 rfl ym tabOk rfl rfl ?_
 refine CS (CG (VG (VB (vs:=o.cells) rfl (fun b=>VG (VN ?_)))))
 refine xdf ?_
 refine VG (VO.split 6 rfl rfl (fun h1=>?_) (fun h1=>?_))
 ·have h1:o.kind=1:=eq_of_beq h1
  refine VG (VL 0 o.cells rfl rfl rfl rfl ?_)
  refine xex ?_
  refine xdf ?_
  exact CR (Ret.bool 2 rfl rfl (by simp[h1];rfl) Imp.nil.ent ⟨rfl,rfl⟩)
 ·have h1:o.kind≠1:=ne_of_beq_false h1
  refine xdf ?_
  exact CR (Ret.bool 2 rfl rfl yg Imp.nil.ent ⟨rfl,rfl⟩)
theorem new_spec:Tri Tryz.prog 98 [] Fr w [] (fun v L=>∃p,v=.pointer (some ⟨p,0,none⟩)∧L=[kvH p []]):=by
 refine TF 4 Tryz.func98 rfl ym tabOk rfl rfl ?_
 refine xdf ?_
 refine VG (VO.opx (OpT.makeMap strV cellV) ?_)
 rintro _ _ ⟨b,rfl,rfl⟩
 refine xdf ?_
 refine VG (VI (LB (pv:=[(0,.map (some b))]) [.map (some b)] rfl rfl rfl ym rfl) ?_)
 refine VG (VB (vs:=[.map (some b)]) rfl fun p=>?_)
 refine xdf ?_
 exact CR (Ret.tmp 0 rfl rfl (Imp.kv Imp.refl).ent ⟨p,rfl,rfl⟩)
theorem none_spec{p:Nat}{S:KvM}(h:SatIn Fr [kvH p S] w):Tri Tryz.prog 258 [.pointer (some ⟨p,0,none⟩)] Fr w [] (fun v L=>v=.bool false∧L=[]):=by
 obtain⟨b,hp,hm⟩:=kv_in h
 refine TF 12 Tryz.func258 rfl ym tabOk rfl rfl ?_
 refine xey ?_
 refine xez ?_
 refine xey ?_
 refine VG (VI (light_mapNil Tryz.underlying229 rfl rfl) ?_)
 refine xdf ?_
 exact xfa
theorem look_spec{p:Nat}{S:KvM}(h:SatIn Fr [kvH p S] w)(k:ByteArray)(n:Int):
  Tri Tryz.prog 274 [.pointer (some ⟨p,0,none⟩),.string k,.int .i64 n] Fr w [] (fun v L=>v=.agg (resC (kvLook S k n)).toArray∧L=[]):=by
 obtain⟨b,hp,hm⟩:=kv_in h
 refine TF 31 Tryz.func274 rfl ym tabOk rfl rfl ?_
 refine xdf ?_
 refine VG (VO.alloc rfl fun r=>?_)
 refine xdf ?_
 refine xfb ?_
 refine zon ?_
 refine xey ?_
 refine VG (VO.op1 (OpT.lookup keyS Tryz.underlying229 rfl rfl (a:=k) rfl (MpL.blk hm)) ?_)
 cases hg:mGet S k with
 | none=>
  refine xdf ?_
  refine VG (VO.alloc rfl fun q=>?_)
  refine VG (VT (vs:=[.string nilB,.int .i64 0]) 0 rfl rfl rfl rfl (NR _) rfl rfl rfl ?_)
  refine zpc ?_
  refine VG (VI (LB (pv:=[(0,.int .i64 2),(3,.int .i64 n)]) (resC ⟨2,nilB,0,n⟩) rfl rfl rfl ym rfl) ?_)
  refine VG (VT (vs:=resC ⟨2,nilB,0,n⟩) 1 rfl rfl rfl rfl (NR _) rfl rfl rfl ?_)
  refine xdf ?_
  exact CR (Ret.cell 6 rfl rfl rfl (RdL.many (ds:=resC ⟨2,nilB,0,n⟩) 1 rfl rfl) Imp.nil.ent ⟨by rw[kvLook,hg],rfl⟩)
 | some x=>
  obtain⟨v,m⟩:=x
  refine xdf ?_
  refine VG (VO.alloc rfl fun q=>?_)
  refine VG (VT (vs:=[.string v,.int .i64 m]) 0 rfl rfl rfl rfl (NR _) rfl rfl rfl ?_)
  refine zpb ?_
  refine VG (VI (LB (pv:=[(0,.int .i64 1),(1,.string v),(2,.int .i64 m),(3,.int .i64 n)]) (resC ⟨1,v,m,n⟩) rfl rfl rfl ym rfl) ?_)
  refine VG (VT (vs:=resC ⟨1,v,m,n⟩) 1 rfl rfl rfl rfl (NR _) rfl rfl rfl ?_)
  refine xdf ?_
  exact CR (Ret.cell 6 rfl rfl rfl (RdL.many (ds:=resC ⟨1,v,m,n⟩) 1 rfl rfl) Imp.nil.ent ⟨by rw[kvLook,hg],rfl⟩)
theorem apply_spec(p:Nat)(S:KvM)(i:Int)(o:OpM):
  Tri Tryz.prog 230 [.pointer (some ⟨p,0,none⟩),.int .i64 i,.agg o.cells.toArray] Fr w [kvH p S] (fun v L=>v=.agg (resC (kvApply S i o).2).toArray∧L=[kvH p (kvApply S i o).1]):=by
 refine TF 96 Tryz.func230 rfl ym tabOk rfl rfl ?_
 refine xdf ?_
 refine VG (VB (vs:=o.cells) rfl fun ob=>?_)
 refine VG (VO.alloc rfl fun r=>?_)
 refine VG (VN (CS ?_))
 refine VC.meet (σ:=Bool) (fun t=>[(0,pV p),(1,.int .i64 i),(5,pV ob),(6,pV r),(23,.bool t)]) (fun _=>[pt r (resC resZ) 154,pt ob o.cells 35,kvH p S]) (fun t=>t=true↔(i<1∨4096<i∨opCheck o≠0)) ?_ ?_
 ·refine CG ?_
  refine xdf ?_
  refine VG (VV (fun Fr w hF hs hS=>none_spec Fr w (hS.at_ 2 rfl)) rfl ?_)
  refine xdf ?_
  refine VG (VY 11 false rfl rfl ?_)
  refine xdf ?_
  refine VG (VO.split 15 rfl rfl (fun h1=>?_) (fun h1=>?_))
  ·have h1:=of_decide_eq_true h1
   refine xdf ?_
   refine VG (VY 19 true rfl rfl ?_)
   refine VG (VN ⟨true,by simp[h1],sbZ,ER⟩)
  have h1:=of_decide_eq_false h1
  refine xdf ?_
  refine VG (VO.split 19 rfl rfl (fun h2=>?_) (fun h2=>?_))
  ·have h2:=of_decide_eq_true h2
   refine xdf ?_
   exact⟨true,by simp[h2],sbZ,ER⟩
  have h2:=of_decide_eq_false h2
  refine VG (VL 1 o.cells rfl rfl rfl rfl ?_)
  refine xex ?_
  refine xdf ?_
  exact⟨_,by simp[h1,h2],SC rfl (SC rfl (SC rfl (SC rfl (SC rfl (SN _))))),ER⟩
 intro t ht
 refine CC rfl (fun h=>?_) (fun h=>CK ?_)
 ·have hb:=ht.1 h
  have e1:kvApply S i o=(S,resZ):=by rw[kvApply,if_pos hb]
  refine zqg ?_
  refine xfd ?_
  refine xdf ?_
  exact CR (Ret.cell 6 rfl rfl rfl (RdL.many (ds:=resC resZ) 0 rfl rfl) (IP 2 rfl Imp.nil).ent ⟨by rw[e1],by rw[e1]⟩)
 have hb:¬(i<1∨4096<i∨opCheck o≠0):=fun h'=>by rw[ht.2 h'] at h;cases h
 refine VC.opn 2 rfl (HOpn.kv p S) ?_
 intro b _
 generalize hx:(mGet S o.key).getD (nilB,0)=x
 refine VC.meet (σ:=Nat) (fun q=>[(0,pV p),(1,.int .i64 i),(5,pV ob),(6,pV r),(7,pV q),(8,.bool (mGet S o.key).isSome)])
  (fun q=>[pt q [.string x.1,.int .i64 x.2] 345,pt p [.map (some b)] 231,mapH strV cellV b S,pt r (resC resZ) 154,pt ob o.cells 35]) (fun _=>True) ?_ ?_
 ·refine CD (ts 0 10 (.only 10 (.only 11 (.take 12 .nil)))) ym yr ?_
  refine xfe ?_
  refine AG (VA.lookup keyS Tryz.underlying229 rfl rfl rfl (a:=o.key) rfl (MpL.one 1 rfl) ?_)
  have hv:((mGet S o.key).map cellV).getD T.t345.zero=cellV x:=by rw[←hx];cases mGet S o.key<;>rfl
  rw[hv]
  refine xfe ?_
  refine AG (AO (OpT.alloc rfl) rfl ?_ ?_)
  ·rintro v L' ⟨q,rfl,rfl⟩
   exact yv
  rintro v L' ⟨q,rfl,rfl⟩
  refine AG (AT (vs:=[.string x.1,.int .i64 x.2]) 0 rfl rfl rfl rfl rfl (NR _) rfl rfl rfl yv ?_)
  refine xfe ?_
  exact⟨q,trivial,sbZ,ER⟩
 intro q _
 have hres:∀(R:ResM) {e:Env} {M:List HP} {S':KvM},Vg.look e 6=some (.pointer (some ⟨r,0,none⟩))→kvApply S i o=(S',R)→Imp M (pt p [.map (some b)] 231::mapH strV cellV b S' :: [])→M[3]?=some (pt r (resC R) 154) →
   Ret ⟨Tryz.prog,tab,tabOk,96,Fr,w⟩ Tryz.f230 (fun v L=>v=.agg (resC (kvApply S i o).2).toArray∧L=[kvH p (kvApply S i o).1]) e M:=by
  intro R e M S' h6 hk hi hM
  exact Ret.cell 6 rfl h6 rfl (RdL.many (ds:=resC R) 3 hM rfl) (Imp.kv hi).ent ⟨by rw[hk],by rw[hk]⟩
 refine VC.meet (σ:=Unit) (fun _=>[(0,pV p),(1,.int .i64 i),(5,pV ob),(6,pV r)]) (fun _=>[pt q [.string x.1,.int .i64 x.2] 345,pt p [.map (some b)] 231,mapH strV cellV b S,pt r (resC resZ) 154,pt ob o.cells 35]) (fun _=>o.kind≠1∧o.kind≠3∧¬(o.kind=4∧x.2≠o.version)) (VC.block ?_) ?_
 case refine_2=>
  rintro _ ⟨h1,h2,h3⟩
  refine xff ?_
  refine xfg ?_
  refine AG (AI rfl (LB (pv:=[(0,.string o.value),(1,.int .i64 i)]) [.string o.value,.int .i64 i] rfl rfl rfl ym rfl) ?_)
  refine AG (AO (OpT.mapUpdate (d:=cellV) (u:=(o.value,i)) 2 keyS Tryz.underlying229 (a:=o.key) rfl rfl rfl rfl) rfl ?_ ?_)
  ·rintro v L' ⟨rfl,rfl⟩
   exact yv
  rintro v L' ⟨rfl,rfl⟩
  refine AG (AN ?_)
  refine xdf ?_
  refine VG (VI (LB (pv:=[(0,.int .i64 1),(2,.int .i64 i),(3,.int .i64 i)]) (resC ⟨1,nilB,i,i⟩) rfl rfl rfl ym rfl) ?_)
  refine VG (VT (vs:=resC ⟨1,nilB,i,i⟩) 3 rfl rfl rfl rfl (NR _) rfl rfl rfl ?_)
  refine xdf ?_
  exact CR (hres ⟨1,nilB,i,i⟩ rfl (by rw[kvApply,if_neg hb,if_neg h1,if_neg h2,hx,if_neg h3]) (pkZ [1,1]) rfl)
 refine xfh ?_
 refine CE rfl (fun h1=>?_) (fun h1=>?_)
 ·refine xfh ?_
  refine VG (VV (fun Fr w hF hs hS=>look_spec Fr w (SatIn.kv hS 1 2 rfl rfl) o.key i) rfl ?_)
  refine VG (VT (vs:=resC (kvLook S o.key i)) 3 rfl rfl rfl rfl (NR _) rfl rfl rfl ?_)
  refine xdf ?_
  exact CR (hres (kvLook S o.key i) rfl (by rw[kvApply,if_neg hb,if_pos h1]) (pkZ [1,1]) rfl)
 ·refine xfh ?_
  refine VG (VO.split 48 rfl rfl (fun h2=>?_) (fun h2=>?_))
  ·have h2:o.kind=3:=eq_of_beq h2
   refine xfh ?_
   cases hg:mGet S o.key with
   | none=>
    refine zoq ?_
    refine VG (VI (LB (pv:=[(0,.int .i64 2),(3,.int .i64 i)]) (resC ⟨2,nilB,0,i⟩) rfl rfl rfl ym rfl) ?_)
    refine VG (VT (vs:=resC ⟨2,nilB,0,i⟩) 3 rfl rfl rfl rfl (NR _) rfl rfl rfl ?_)
    refine xdf ?_
    exact CR (hres ⟨2,nilB,0,i⟩ rfl yw (pkZ [1,1]) rfl)
   | some y=>
    refine xdg ?_
    refine xfh ?_
    refine CC rfl (fun _=>?_) (fun h=>absurd h2 (ne_of_beq_false h))
    refine xfi ?_
    refine xfg ?_
    refine AG (AO (OpT.delete 2 keyS Tryz.underlying229 (a:=o.key) rfl rfl rfl) rfl ?_ ?_)
    ·rintro v L' ⟨rfl,rfl⟩
     exact yv
    rintro v L' ⟨rfl,rfl⟩
    refine AG (AN ?_)
    refine xdf ?_
    refine VG (VI (LB (pv:=[(0,.int .i64 1),(3,.int .i64 i)]) (resC ⟨1,nilB,0,i⟩) rfl rfl rfl ym rfl) ?_)
    refine VG (VT (vs:=resC ⟨1,nilB,0,i⟩) 3 rfl rfl rfl rfl (NR _) rfl rfl rfl ?_)
    refine xdf ?_
    exact CR (hres ⟨1,nilB,0,i⟩ rfl yw (pkZ [1,1]) rfl)
  have h2:o.kind≠3:=ne_of_beq_false h2
  refine xfh ?_
  refine xdg ?_
  refine xfh ?_
  refine CC rfl (fun h=>absurd (eq_of_beq h) h2) (fun _=>?_)
  refine xfh ?_
  refine VG (VO.split 70 rfl rfl (fun h3=>?_) (fun h3=>?_))
  ·have h3:o.kind=4:=eq_of_beq h3
   refine xfh ?_
   refine CC rfl (fun h4=>?_) (fun h4=>?_)
   ·have h4:x.2≠o.version:=by simpa using h4
    refine xfh ?_
    refine VG (VI (LB (pv:=[(0,.int .i64 3),(1,.string x.1),(2,.int .i64 x.2),(3,.int .i64 i)]) (resC ⟨3,x.1,x.2,i⟩) rfl rfl rfl ym rfl) ?_)
    refine VG (VT (vs:=resC ⟨3,x.1,x.2,i⟩) 3 rfl rfl rfl rfl (NR _) rfl rfl rfl ?_)
    refine xdf ?_
    exact CR (hres ⟨3,x.1,x.2,i⟩ rfl (by rw[kvApply,if_neg hb,if_neg h1,if_neg h2,hx,if_pos ⟨h3,h4⟩]) (pkZ [1,1]) rfl)
   ·have h4:x.2=o.version:=by simpa using h4
    exact CK ⟨(),⟨h1,h2,fun h=>h.2 h4⟩,sbZ,ER⟩
  ·have h3:o.kind≠4:=ne_of_beq_false h3
   refine xfh ?_
   exact VC.condF rfl (CK ⟨(),⟨h1,h2,fun h=>h3 h.1⟩,sbZ,ER⟩)
end Kv
namespace Lg
open Go Vg T Api Kv
attribute [local irreducible] VO VC VA
abbrev entT:TypeId:=161
abbrev resT:TypeId:=154
abbrev logT:TypeId:=173
def entC(e:EntryM):List Value:=[.int .i64 e.index,.int .i64 e.client,.int .i64 e.seq,.int .i64 e.op.kind,.string e.op.key,.string e.op.value,.int .i64 e.op.version]
theorem entC_len(e:EntryM):(entC e).length=7:=rfl
theorem entC_one(e:EntryM):(entC e).all Value.oneCell'=true:=rfl
theorem resC_len(r:ResM):(resC r).length=4:=rfl
theorem resC_one(r:ResM):(resC r).all Value.oneCell'=true:=rfl
def entZ:EntryM:=⟨0,0,0,opZ⟩
def logStep(x:KvM×List ResM)(e:EntryM):KvM×List ResM:=((kvApply x.1 e.index e.op).1,x.2 ++ [(kvApply x.1 e.index e.op).2])
def logRun(es:List EntryM):KvM×List ResM:=es.foldl logStep ([],[])
theorem logRun_snoc(es:List EntryM)(e:EntryM):logRun (es ++ [e])=logStep (logRun es) e:=by simp[logRun]
theorem logRun_len(es:List EntryM):(logRun es).2.length=es.length:=by
 have:∀(es:List EntryM) (x:KvM×List ResM),(es.foldl logStep x).2.length=x.2.length+es.length:=by
  intro es
  induction es with
  | nil=>intro x;rfl
  | cons e es ih=>intro x;rw[List.foldl_cons,ih];simp[logStep];omega
 have h:=this es ([],[])
 simpa[logRun] using h
def lastStep(c:Int)(p:Int×Int)(e:EntryM):Int×Int:=if e.client=c then (e.seq,e.index) else p
def lastOf(es:List EntryM)(c:Int):Int×Int:=es.foldl (lastStep c) (0,0)
theorem lastOf_snoc(es:List EntryM)(e:EntryM)(c:Int):lastOf (es ++ [e]) c=if e.client=c then (e.seq,e.index) else lastOf es c:=by simp[lastOf,lastStep]
def lastsC(es:List EntryM):List Value:=(List.range 6).flatMap fun c=>[.int .i64 (lastOf es (c:Nat)).1,.int .i64 (lastOf es (c:Nat)).2]
theorem lastsC_at{es:List EntryM}{c:Nat}(h:c<6):(lastsC es)[c*2]?=some (.int .i64 (lastOf es (c:Nat)).1)∧(lastsC es)[c*2+1]?=some (.int .i64 (lastOf es (c:Nat)).2):=by
 match c,h with
 | 0,_=>exact⟨rfl,rfl⟩
 | 1,_=>exact⟨rfl,rfl⟩
 | 2,_=>exact⟨rfl,rfl⟩
 | 3,_=>exact⟨rfl,rfl⟩
 | 4,_=>exact⟨rfl,rfl⟩
 | 5,_=>exact⟨rfl,rfl⟩
 | c+6,h=>omega
structure LogS where
 sp:Nat
 a1:Option Addr
 c1:Nat
 a2:Option Addr
 c2:Nat
def logCs(es:List EntryM)(x:LogS):List Value:=.pointer (some ⟨x.sp,0,none⟩) :: .slice x.a1 es.length x.c1 :: .slice x.a2 (logRun es).2.length x.c2::lastsC es
def logL(p:Nat)(es:List EntryM)(x:LogS):List HP:=[pt p (logCs es x) logT,kvH x.sp (logRun es).1,slH entT 7 x.a1 es.length x.c1 (flat entC es),slH resT 4 x.a2 (logRun es).2.length x.c2 (flat resC (logRun es).2)]
def logH(p:Nat)(es:List EntryM):HP:=hex fun x=>hsep (logL p es x)
structure LogIn(Fr:Nat→Prop)(w:World)(p:Nat)(es:List EntryM)(x:LogS):Prop where
 blk:Blk Fr w p (logCs es x)
 kv:SatIn Fr [kvH x.sp (logRun es).1] w
 ents:RwIn entC 7 Fr w x.a1 es
 ress:RwIn resC 4 Fr w x.a2 (logRun es).2
theorem LogIn.of{Fr:Nat→Prop}{w:World}{p:Nat}{es:List EntryM}(h:SatIn Fr [logH p es] w):∃x,LogIn Fr w p es x:=by
 obtain⟨x,h⟩:=h.ex
 have h:=h.sep
 exact⟨x,h.blk 0 rfl,h.at_ 1 rfl,RwIn.slH entC_len (h.at_ 2 rfl),RwIn.slH resC_len (h.at_ 3 rfl)⟩
theorem HOpn.log(p:Nat)(es:List EntryM):HOpn (ι:=LogS) (logH p es) (fun _=>True) (fun x=>logL p es x):=fun w ids ⟨x,h⟩ hn=>⟨x,trivial,ids,h,hn,fun _ h=>h⟩
theorem Imp.log{p:Nat}{es:List EntryM}{L M:List HP}(x:LogS)(h:Imp L (logL p es x++M)):Imp L (logH p es::M):=
 Imp.ex (f:=fun x=>hsep (logL p es x)) x (Imp.sep (Ls:=logL p es x) h)
theorem new_spec:Tri Tryz.prog 66 [] Fr w [] (fun v L=>∃p,v=.pointer (some ⟨p,0,none⟩)∧L=[logH p []]):=by
 refine TF 4 Tryz.func66 rfl ym tabOk rfl rfl ?_
 refine xdf ?_
 refine VG (VK (Lc:=[]) (fun Fr w hF hw _=>Kv.new_spec Fr w) rfl rfl ?_)
 rintro _ _ ⟨q,rfl,rfl⟩
 refine VG (VI (LB (pv:=[(0,pV q)]) (logCs [] ⟨q,none,0,none,0⟩) rfl rfl rfl ym rfl) ?_)
 refine VG (VB (vs:=logCs [] ⟨q,none,0,none,0⟩) rfl fun p=>?_)
 refine xdf ?_
 exact CR (Ret.tmp 0 rfl rfl (Imp.log ⟨q,none,0,none,0⟩ (IP 0 rfl (IP 0 rfl (Imp.slNil (Imp.slNil Imp.nil))))).ent ⟨p,rfl,rfl⟩)
section
variable {p:Nat} {es:List EntryM}
theorem none_spec{q:Nat}{cs:List Value}(h:Blk Fr w p (.pointer (some ⟨q,0,none⟩)::cs)):Tri Tryz.prog 164 [.pointer (some ⟨p,0,none⟩)] Fr w [] (fun v L=>v=.bool false∧L=[]):=by
 refine TF 12 Tryz.func164 rfl ym tabOk rfl rfl ?_
 refine xdf ?_
 refine VG (VO.split 5 rfl rfl (fun h=>by cases h) (fun _=>?_))
 refine xej ?_
 exact xep
theorem len_spec(h:SatIn Fr [logH p es] w):Tri Tryz.prog 118 [.pointer (some ⟨p,0,none⟩)] Fr w [] (fun v L=>v=.int .i64 es.length∧L=[]):=by
 obtain⟨x,hx⟩:=LogIn.of h
 have hb:=hx.blk
 unfold logCs at hb
 refine TF 10 Tryz.func118 rfl ym tabOk rfl rfl ?_
 refine xdf ?_
 refine VG (VV (fun Fr w hF hs _=>none_spec Fr w (hb.of hF hs)) rfl ?_)
 refine zon ?_
 refine xdi ?_
 exact xem
def atI{α:Type}(l:List α)(i:Int):Option α:=if 1≤i then l[(i-1).toNat]? else none
theorem atI_none{α:Type}{l:List α}{i:Int}(h:i<1∨(l.length:Int)<i):atI l i=none:=by
 unfold atI
 split
 ·exact List.getElem?_eq_none yd
 ·rfl
theorem atI_some{α:Type}{l:List α}{i:Int}(h0:1≤i)(h1:i≤l.length):∃(k:Nat) (x:α),i=k+1∧k<l.length∧l[k]?=some x∧atI l i=some x:=by
 refine⟨(i-1).toNat,_,by omega,by omega,GE yd,?_⟩
 rw[atI,if_pos h0,GE yd]
theorem at_spec(h:SatIn Fr [logH p es] w)(i:Int)(hi0:-9223372036854775808<i)(hi1:i≤9223372036854775807):Tri Tryz.prog 93 [.pointer (some ⟨p,0,none⟩),.int .i64 i] Fr w []
  (fun v L=>v=.tuple #[.agg (entC ((atI es i).getD entZ)).toArray,.bool (atI es i).isSome]∧L=[]):=by
 obtain⟨x,hx⟩:=LogIn.of h
 have hb:=hx.blk
 unfold logCs at hb
 refine TF 23 Tryz.func93 rfl ym tabOk rfl rfl ?_
 refine CS (CG (VG (VO.alloc rfl fun rb=>?_)))
 refine xdf ?_
 by_cases h0:i<1
 ·refine VG (VY 8 true rfl (DT h0) ?_)
  refine zpa ?_
  refine VG (VI (LB (pv:=[]) (entC entZ) rfl rfl rfl ym rfl) ?_)
  refine VG (VT (vs:=entC entZ) 0 rfl rfl rfl rfl (NR _) rfl rfl rfl ?_)
  refine xdf ?_
  exact CR (Ret.cellTmp 4 5 rfl rfl rfl (RdL.many (ds:=entC entZ) 0 rfl rfl) rfl Imp.nil.ent ⟨by rw[atI_none (.inl h0)];rfl,rfl⟩)
 ·refine VG (VY 8 false rfl (DF h0) ?_)
  refine xdn ?_
  refine VG (VV (fun Fr w hF hs hS=>len_spec Fr w (h.of hF hs)) rfl ?_)
  refine xdn ?_
  refine CP rfl (fun h1=>?_) (fun h1=>CK ?_)
  ·refine xdf ?_
   refine VG (VI (LB (pv:=[]) (entC entZ) rfl rfl rfl ym rfl) ?_)
   refine VG (VT (vs:=entC entZ) 0 rfl rfl rfl rfl (NR _) rfl rfl rfl ?_)
   refine xdf ?_
   exact CR (Ret.cellTmp 4 5 rfl rfl rfl (RdL.many (ds:=entC entZ) 0 rfl rfl) rfl Imp.nil.ent ⟨by rw[atI_none (.inr h1)];rfl,rfl⟩)
  ·obtain⟨k,e,rfl,hk,he,hat⟩:=atI_some (l:=es) (i:=i) yd yd
   obtain⟨eb,eo,hea,ra,rc⟩:=RwIn.rd (X:=⟨Tryz.prog,tab,tabOk,23,Fr,w⟩) hx.ents he
   rw[hea] at hb
   refine xdi ?_
   refine xed ?_
   refine VG (VI (light_idx k rfl rfl rfl rfl rfl yd hk) ?_)
   refine xdk ?_
   refine VG (VT (vs:=entC e) 0 rfl rfl rfl rfl (NR _) rfl rfl rfl ?_)
   refine xdf ?_
   exact CR (Ret.cellTmp 4 5 rfl rfl rfl (RdL.many (ds:=entC e) 0 rfl rfl) rfl Imp.nil.ent ⟨by rw[hat];rfl,rfl⟩)
theorem result_spec(h:SatIn Fr [logH p es] w)(i:Int)(hi0:-9223372036854775808<i)(hi1:i≤9223372036854775807):Tri Tryz.prog 236 [.pointer (some ⟨p,0,none⟩),.int .i64 i] Fr w []
  (fun v L=>v=.tuple #[.agg (resC ((atI (logRun es).2 i).getD resZ)).toArray,.bool (atI (logRun es).2 i).isSome]∧L=[]):=by
 obtain⟨x,hx⟩:=LogIn.of h
 have hb:=hx.blk
 unfold logCs at hb
 have hrl:=logRun_len es
 refine TF 23 Tryz.func236 rfl ym tabOk rfl rfl ?_
 refine CS (CG (VG (VO.alloc rfl fun rb=>?_)))
 refine xdf ?_
 by_cases h0:i<1
 ·refine VG (VY 8 true rfl (DT h0) ?_)
  refine zpa ?_
  refine xfc ?_
  refine xfd ?_
  refine xdf ?_
  exact CR (Ret.cellTmp 4 5 rfl rfl rfl (RdL.many (ds:=resC resZ) 0 rfl rfl) rfl Imp.nil.ent ⟨by rw[atI_none (.inl h0)];rfl,rfl⟩)
 ·refine VG (VY 8 false rfl (DF h0) ?_)
  refine xdn ?_
  refine VG (VV (fun Fr w hF hs hS=>len_spec Fr w (h.of hF hs)) rfl ?_)
  refine xdn ?_
  refine CP rfl (fun h1=>?_) (fun h1=>CK ?_)
  ·refine zqg ?_
   refine xfd ?_
   refine xdf ?_
   exact CR (Ret.cellTmp 4 5 rfl rfl rfl (RdL.many (ds:=resC resZ) 0 rfl rfl) rfl Imp.nil.ent ⟨by rw[atI_none (.inr (by rw[hrl];exact h1))];rfl,rfl⟩)
  ·obtain⟨k,e,rfl,hk,he,hat⟩:=atI_some (l:=(logRun es).2) (i:=i) yd yd
   obtain⟨eb,eo,hea,ra,rc⟩:=RwIn.rd (X:=⟨Tryz.prog,tab,tabOk,23,Fr,w⟩) hx.ress he
   rw[hea] at hb
   refine xdi ?_
   refine xed ?_
   refine VG (VI (light_idx k rfl rfl rfl rfl rfl yd hk) ?_)
   refine xdk ?_
   refine VG (VT (vs:=resC e) 0 rfl rfl rfl rfl (NR _) rfl rfl rfl ?_)
   refine xdf ?_
   exact CR (Ret.cellTmp 4 5 rfl rfl rfl (RdL.many (ds:=resC e) 0 rfl rfl) rfl Imp.nil.ent ⟨by rw[hat];rfl,rfl⟩)
def lastR(es:List EntryM)(c:Int):Int×Int:=if 0≤c∧c<6 then lastOf es c else (0,0)
theorem last_spec(h:SatIn Fr [logH p es] w)(c:Int):Tri Tryz.prog 283 [.pointer (some ⟨p,0,none⟩),.int .i64 c] Fr w []
  (fun v L=>v=.tuple #[.int .i64 (lastR es c).1,.int .i64 (lastR es c).2]∧L=[]):=by
 obtain⟨x,hx⟩:=LogIn.of h
 have hb:=hx.blk
 unfold logCs at hb
 refine TF 30 Tryz.func283 rfl ym tabOk rfl rfl ?_
 refine xdf ?_
 refine xfj ?_
 refine xdf ?_
 refine VG (VY 8 false rfl rfl ?_)
 refine xdn ?_
 by_cases h0:c<0
 ·refine VG (VY 12 true rfl (DT h0) ?_)
  refine zpa ?_
  exact CR (Ret.tmp2 4 5 rfl rfl rfl ER ⟨by rw[lastR,if_neg yd],rfl⟩)
 ·refine VG (VY 12 false rfl (DF h0) ?_)
  refine xdn ?_
  refine CP rfl (fun h1=>?_) (fun h1=>CK ?_)
  ·refine xdf ?_
   exact CR (Ret.tmp2 4 5 rfl rfl rfl ER ⟨by rw[lastR,if_neg yd],rfl⟩)
  ·obtain⟨k,rfl⟩:∃k:Nat,c=k:=⟨c.toNat,by omega⟩
   obtain⟨l1,l2⟩:=lastsC_at (es:=es) (c:=k) yd
   have q1:(logCs es x)[0+3+k*2+0]?=some (.int .i64 (lastOf es (k:Nat)).1):=by rw[show 0+3+k*2+0=k*2+3 by omega];exact l1
   have q2:(logCs es x)[0+3+k*2+1]?=some (.int .i64 (lastOf es (k:Nat)).2):=by rw[show 0+3+k*2+1=k*2+1+3 by omega];exact l2
   refine CS (CD (ts 0 16 .nil) ym yr ?_)
   refine xeh ?_
   refine AG (AI rfl (light_idxA k rfl rfl rfl rfl rfl rfl yd) ?_)
   refine xeh ?_
   refine AG (VA.load rfl rfl rfl (RdL.blk hx.blk q1) ?_)
   refine xeh ?_
   refine AG (AI rfl (light_idxA k rfl rfl rfl rfl rfl rfl yd) ?_)
   refine xeh ?_
   refine AG (VA.load rfl rfl rfl (RdL.blk hx.blk q2) ?_)
   refine xeh ?_
   exact CR (Ret.tmp2 4 5 rfl rfl rfl ER ⟨by rw[lastR,if_pos yd],rfl⟩)
theorem look_spec(h:SatIn Fr [logH p es] w)(k:ByteArray):Tri Tryz.prog 248 [.pointer (some ⟨p,0,none⟩),.string k] Fr w []
  (fun v L=>v=.agg (resC (kvLook (logRun es).1 k es.length)).toArray∧L=[]):=by
 obtain⟨x,hx⟩:=LogIn.of h
 have hb:=hx.blk
 unfold logCs at hb
 refine TF 19 Tryz.func248 rfl ym tabOk rfl rfl ?_
 refine CS (CG (VG (VO.alloc rfl fun rb=>?_)))
 refine xdf ?_
 refine xfj ?_
 refine zon ?_
 refine CS (CD (ts 0 10 (.only 10 (.only 11 .nil))) ym yr ?_)
 refine xfk ?_
 refine AG (AR (fun Fr w hF hs hS=>Kv.look_spec Fr w (hx.kv.of hF hs) k es.length) rfl rfl yx ?_)
 refine AG (AT (vs:=resC (kvLook (logRun es).1 k es.length)) 0 rfl rfl rfl rfl rfl (NR _) rfl rfl rfl (by(try refine Pd.st ?_);(repeat(first|exact Pd.nil|exact Pd.fnil|refine Pd.inner ?_|refine Pd.skip yr ?_|refine zf (zo 0 rfl rfl) ?_|refine zf (zm 0 rfl rfl) ?_|refine zf (RdL.blk (RdL.blk hb rfl) rfl) ?_|refine zf ((RdL.blk hb rfl)) ?_|refine zc (zo 0 rfl rfl) ?_|refine zc (zm 0 rfl rfl) ?_|refine zc (RdL.blk (RdL.blk hb rfl) rfl) ?_|refine zc ((RdL.blk hb rfl)) ?_))) ?_)
 refine xeh ?_
 exact CR (Ret.cell 4 rfl rfl rfl (RdL.many (ds:=resC (kvLook (logRun es).1 k es.length)) 0 rfl rfl) Imp.nil.ent ⟨rfl,rfl⟩)
end
end Lg
namespace Lg
open Go Vg T Api Kv
attribute [local irreducible] VO VC VA
def readsB(o:OpM):Bool:=decide (o.kind=1)&&decide (opCheck o=0)
def badE(e:EntryM):Bool:=decide (e.client<0)||decide (6≤e.client)||decide (e.seq<1)||(decide (opCheck e.op≠0)||readsB e.op)
def logErr(es:List EntryM)(e:EntryM):Int:=
 if badE e then 2 else if (4096:Int)≤es.length then 60 else if e.index≠es.length+1 then 70 else if e.seq≤(lastOf es e.client).1 then 71 else 0
def logApp(es:List EntryM)(e:EntryM):List EntryM:=if logErr es e=0 then es ++ [e] else es
def logRes(es:List EntryM)(e:EntryM):ResM:=if logErr es e=0 then (kvApply (logRun es).1 e.index e.op).2 else resZ
theorem lasts_set{es:List EntryM}{e:EntryM}{c:Nat}(h:c<6)(hc:e.client=c)(x y z:Value):
  wrC (x::y::z::lastsC es) (0+3+c*2) [.int .i64 e.seq,.int .i64 e.index]=x::y::z::lastsC (es ++ [e]):=by
 unfold lastsC
 simp only[lastOf_snoc,hc]
 match c,h with
 | 0,_=>rfl
 | 1,_=>rfl
 | 2,_=>rfl
 | 3,_=>rfl
 | 4,_=>rfl
 | 5,_=>rfl
 | c+6,h=>omega
theorem append_spec(p:Nat)(es:List EntryM)(e:EntryM):Tri Tryz.prog 166 [.pointer (some ⟨p,0,none⟩),.agg (entC e).toArray] Fr w [logH p es]
  (fun v L=>v=.tuple #[.agg (resC (logRes es e)).toArray,.int .i64 (logErr es e)]∧L=[logH p (logApp es e)]):=by
 refine TF 107 Tryz.func166 rfl ym tabOk rfl rfl ?_
 refine CS (CG (VG (VB (vs:=entC e) rfl fun eb=>VG (VO.alloc rfl fun rb=>?_))))
 refine VG (VN (CS (VC.block ?_)))
 refine VC.opn 2 rfl (HOpn.log p es) ?_
 rintro x -
 have hrl:=logRun_len es
 unfold logL
 show VC _ _ _ [pt p (logCs es x) logT,kvH x.sp (logRun es).1,slH entT 7 x.a1 es.length x.c1 (flat entC es),slH resT 4 x.a2 (logRun es).2.length x.c2 (flat resC (logRun es).2),pt rb (resC resZ) resT,pt eb (entC e) entT] _
 have back:∀{X:Cx},Ent X [pt p (logCs es x) logT,kvH x.sp (logRun es).1,slH entT 7 x.a1 es.length x.c1 (flat entC es),slH resT 4 x.a2 (logRun es).2.length x.c2 (flat resC (logRun es).2),pt rb (resC resZ) resT,pt eb (entC e) entT] [logH p es]:=
  (Imp.log x (pkZ [0,0,0,0])).ent
 refine xdf ?_
 refine VG (VV (fun Fr w hF hs hS=>none_spec Fr w (hS.blk 0 rfl)) rfl ?_)
 refine xdf ?_
 refine xdg ?_
 refine CS ?_
 refine VC.meetS (σ:=Unit) (fun _=>[(0,pV p),(3,pV eb),(4,pV rb),(10,.bool (badE e))]) (fun _=>[pt p (logCs es x) logT,kvH x.sp (logRun es).1,slH entT 7 x.a1 es.length x.c1 (flat entC es),slH resT 4 x.a2 (logRun es).2.length x.c2 (flat resC (logRun es).2),pt rb (resC resZ) resT,pt eb (entC e) entT]) (fun _=>True) ?_ ?_
 ·refine xfl ?_
  by_cases h1:e.client<0
  ·have hb:badE e=true:=by simp[badE,h1]
   refine VG (VY 14 true rfl (DT h1) ?_)
   refine xfm ?_
   refine VG (VY 19 true rfl rfl ?_)
   refine xfm ?_
   refine VC.condT rfl (CK ?_)
   exact⟨(),trivial,by rw[hb];exact sbZ,ER⟩
  refine VG (VY 14 false rfl (DF h1) ?_)
  refine xfm ?_
  by_cases h2:6≤e.client
  ·have hb:badE e=true:=by simp[badE,h2]
   refine VG (VY 19 true rfl (DT h2) ?_)
   refine xfm ?_
   refine VC.condT rfl (CK ?_)
   exact⟨(),trivial,by rw[hb];exact sbZ,ER⟩
  refine VG (VY 19 false rfl (DF h2) ?_)
  refine xfm ?_
  refine CP rfl (fun h3=>CK ?_) (fun h3=>?_)
  ·have hb:badE e=true:=by simp[badE,h3]
   exact⟨(),trivial,SC rfl (SC rfl (SC rfl (Sub.bl rfl (by simp[hb,h3]) (SN _)))),ER⟩
  ·have hb:badE e=(decide (opCheck e.op≠0)||readsB e.op):=by simp[badE,h1,h2,h3]
   refine xfl ?_
   refine VG (VL 5 e.op.cells rfl rfl rfl rfl ?_)
   refine VG (VO.callV (fun Fr w=>check_spec Fr w e.op) rfl ?_)
   refine xfl ?_
   by_cases h4:opCheck e.op=0
   ·refine VG (VY 28 false rfl (by simp[h4]) ?_)
    refine xfm ?_
    refine VG (VL 5 e.op.cells rfl rfl rfl rfl ?_)
    refine VG (VO.callV (fun Fr w=>Kv.reads_spec Fr w e.op) rfl ?_)
    refine xfm ?_
    exact⟨(),trivial,SC rfl (SC rfl (SC rfl (Sub.bl rfl (by rw[hb];simp[readsB,h4]) (SN _)))),ER⟩
   ·refine VG (VY 28 true rfl (by simp[h4]) ?_)
    refine xfm ?_
    exact⟨(),trivial,SC rfl (SC rfl (SC rfl (Sub.bl rfl (by rw[hb,DT (show opCheck e.op≠0 from h4)];rfl) (SN _)))),ER⟩
 rintro _ -
 have fin:∀{X:Cx} {fn:Func} {E:Env} (z:Int),fn.results=#[.cell 4 resT,.tmp 5]→logErr es e=z→z≠0→tyLook X.tab resT=some T.t154→Vg.look E 4=some (.pointer (some ⟨rb,0,none⟩))→Vg.look E 5=some (.int .i64 z) →
   Ret X fn (fun v L=>v=.tuple #[.agg (resC (logRes es e)).toArray,.int .i64 (logErr es e)]∧L=[logH p (logApp es e)]) E [pt p (logCs es x) logT,kvH x.sp (logRun es).1,slH entT 7 x.a1 es.length x.c1 (flat entC es),slH resT 4 x.a2 (logRun es).2.length x.c2 (flat resC (logRun es).2),pt rb (resC resZ) resT,pt eb (entC e) entT]:=fun z hr hz hne hT h4 h5=>
  Ret.cellTmp 4 5 hr h4 hT (RdL.many (ds:=resC resZ) 4 rfl rfl) h5 back ⟨by rw[logRes,if_neg (by rw[hz];exact hne),hz],by rw[logApp,if_neg (by rw[hz];exact hne)]⟩
 refine CC rfl (fun hb=>?_) (fun hb=>?_)
 ·refine zqg ?_
  refine xfn ?_
  refine xdf ?_
  exact CR (fin 2 rfl (by rw[logErr,if_pos hb]) yo rfl rfl rfl)
 refine xdf ?_
 refine CP rfl (fun h5=>?_) (fun h5=>?_)
 ·refine zqg ?_
  refine xfn ?_
  refine xdf ?_
  exact CR (fin 60 rfl (by rw[logErr,hb,if_neg yf,if_pos h5]) yo rfl rfl rfl)
 refine CS (CD (ts 0 10 .nil) ym yr ?_)
 refine xfo ?_
 refine xeo ?_
 refine xfo ?_
 refine VC.condNE rfl (fun h6=>?_) (fun h6=>?_)
 ·refine zqg ?_
  refine xfn ?_
  refine xdf ?_
  exact CR (fin 70 rfl (by rw[logErr,hb,if_neg yf,if_neg h5,if_pos h6]) yo rfl rfl rfl)
 have hcl:∃c:Nat,c<6∧e.client=c:=by
  have:¬e.client<0∧¬6≤e.client:=by simp[badE] at hb;omega
  exact⟨e.client.toNat,by omega,by omega⟩
 obtain⟨c,hc6,hcc⟩:=hcl
 obtain⟨l1,l2⟩:=lastsC_at (es:=es) (c:=c) hc6
 have q1:(logCs es x)[0+3+c*2+0]?=some (.int .i64 (lastOf es e.client).1):=by rw[show 0+3+c*2+0=c*2+3 by omega,hcc];exact l1
 refine CS (CD (ts 0 12 .nil) ym yr ?_)
 refine xfo ?_
 refine AG (AI rfl (light_idxA c rfl rfl rfl rfl rfl hcc hc6) ?_)
 refine xfo ?_
 refine AG (VA.load rfl rfl rfl (RdL.one 0 rfl q1) ?_)
 refine xfo ?_
 refine CP rfl (fun h7=>?_) (fun h7=>CK ?_)
 ·refine zqg ?_
  refine xfn ?_
  refine xdf ?_
  exact CR (fin 71 rfl (by rw[logErr,hb,if_neg yf,if_neg h5,if_neg yd,if_pos h7]) yo rfl rfl rfl)
 have hz:logErr es e=0:=by rw[logErr,hb,if_neg yf,if_neg h5,if_neg yd,if_neg h7]
 have hll:(logRun (es ++ [e])).2.length=(logRun es).2.length+1:=by rw[logRun_snoc];simp[logStep]
 have hrr:logRes es e=(kvApply (logRun es).1 e.index e.op).2:=by rw[logRes,if_pos hz]
 have happ:logApp es e=es ++ [e]:=by rw[logApp,if_pos hz]
 have hst1:(logRun (es ++ [e])).1=(kvApply (logRun es).1 e.index e.op).1:=by rw[logRun_snoc];rfl
 have hst2:(logRun (es ++ [e])).2=(logRun es).2 ++ [(kvApply (logRun es).1 e.index e.op).2]:=by rw[logRun_snoc];rfl
 refine CS (CD (ts 0 8 (.only 8 (.only 9 .nil))) ym yr ?_)
 refine xfo ?_
 refine AG (VA.ldA 5 e.op.cells rfl rfl rfl rfl rfl ?_)
 refine AG (AQ 1 rfl (fun Fr w hF hs hS=>Kv.apply_spec Fr w x.sp (logRun es).1 e.index e.op) rfl rfl (ψ:=fun v H=>v=.agg (resC (kvApply (logRun es).1 e.index e.op).2).toArray∧H=kvH x.sp (kvApply (logRun es).1 e.index e.op).1) yy ?_ ?_)
 ·rintro _ _ ⟨rfl,rfl⟩
  exact yu
 rintro _ _ ⟨rfl,rfl⟩
 generalize (kvApply (logRun es).1 e.index e.op).2=rr at hrr hst2 ⊢
 generalize (kvApply (logRun es).1 e.index e.op).1=S' at hst1 ⊢
 refine AG (AT (vs:=resC rr) 4 rfl rfl rfl rfl rfl (NR _) rfl rfl rfl yu ?_)
 refine xfo ?_
 refine xfp ?_
 refine xfo ?_
 refine AG (VA.ldA 5 (entC e) rfl rfl rfl rfl rfl ?_)
 refine AG (AO (OpT.buildSlice (n:=1) (pv:=[(0,.agg (entC e).toArray)]) (cells:=entC e) rfl rfl rfl rfl yo (fill_one rfl rfl rfl)) rfl ?_ ?_)
 ·rintro _ _ ⟨nb,rfl,rfl⟩
  exact yu
 rintro _ _ ⟨nb,rfl,rfl⟩
 refine AG (AO (OpT.append (m:=1) (news:=entC e) 3 rfl rfl rfl rfl rfl rfl rfl (RdRow.pt 0 rfl rfl rfl) rfl (by show(es.length+1)*72≤_;omega) yd) rfl ?_ ?_)
 ·rintro _ _ ⟨a1,c1,rfl,hc1,rfl⟩
  exact yu
 rintro _ _ ⟨a1,c1,rfl,hc1,rfl⟩
 refine xfo ?_
 refine AG (VA.st 2 (cs':=.pointer (some ⟨x.sp,0,none⟩) :: .slice a1 (es.length+1) c1 :: .slice x.a2 (logRun es).2.length x.c2::lastsC es) rfl rfl rfl rfl rfl (Nat.le_of_ble_eq_true rfl) rfl rfl yu ?_)
 refine xfo ?_
 refine CN (L':=[pt p (.pointer (some ⟨x.sp,0,none⟩) :: .slice a1 (es.length+1) c1 :: .slice x.a2 (logRun es).2.length x.c2::lastsC es) logT,kvH x.sp S',slH entT 7 a1 (es.length+1) c1 (flat entC es++entC e),slH resT 4 x.a2 (logRun es).2.length x.c2 (flat resC (logRun es).2),pt rb (resC rr) resT,pt eb (entC e) entT]) (pkZ [2,2,0,1,1,1]).ent ?_
 refine xfp ?_
 refine xfo ?_
 refine AG (VA.ldA 4 (resC rr) rfl rfl rfl rfl rfl ?_)
 refine AG (AO (OpT.buildSlice (n:=1) (pv:=[(0,.agg (resC rr).toArray)]) (cells:=resC rr) rfl rfl rfl rfl yo (fill_one rfl rfl rfl)) rfl ?_ ?_)
 ·rintro _ _ ⟨nb,rfl,rfl⟩
  exact yu
 rintro _ _ ⟨nb,rfl,rfl⟩
 refine AG (AO (OpT.append (m:=1) (news:=resC rr) 4 rfl rfl rfl rfl rfl rfl rfl (RdRow.pt 0 rfl rfl rfl) rfl (by show((logRun es).2.length+1)*40≤_;omega) yd) rfl ?_ ?_)
 ·rintro _ _ ⟨a2,c2,rfl,hc2,rfl⟩
  exact yu
 rintro _ _ ⟨a2,c2,rfl,hc2,rfl⟩
 refine xfo ?_
 refine AG (VA.st 2 (cs':=.pointer (some ⟨x.sp,0,none⟩) :: .slice a1 (es.length+1) c1 :: .slice a2 ((logRun es).2.length+1) c2::lastsC es) rfl rfl rfl rfl rfl (Nat.le_of_ble_eq_true rfl) rfl rfl yu ?_)
 refine xfo ?_
 refine CN (L':=[pt p (.pointer (some ⟨x.sp,0,none⟩) :: .slice a1 (es.length+1) c1 :: .slice a2 ((logRun es).2.length+1) c2::lastsC es) logT,kvH x.sp S',slH entT 7 a1 (es.length+1) c1 (flat entC es++entC e),slH resT 4 a2 ((logRun es).2.length+1) c2 (flat resC (logRun es).2++resC rr),pt rb (resC rr) resT,pt eb (entC e) entT]) (pkZ [2,2,2,0,1,1]).ent ?_
 refine CS (CD (ts 0 11 (.only 11 .nil)) ym yr ?_)
 refine xfo ?_
 refine AG (AI rfl (LB (pv:=[(0,.int .i64 e.seq),(1,.int .i64 e.index)]) [.int .i64 e.seq,.int .i64 e.index] rfl rfl rfl ym rfl) ?_)
 refine xfo ?_
 refine AG (AI rfl (light_idxA c rfl rfl rfl rfl rfl hcc hc6) ?_)
 refine AG (AT (vs:=[.int .i64 e.seq,.int .i64 e.index]) 0 rfl rfl rfl rfl rfl (by show 0+3+c*2+2≤15;omega) (lasts_set hc6 hcc _ _ _) rfl rfl yu ?_)
 refine xfo ?_
 refine xdf ?_
 refine VG (VL 4 (resC rr) rfl rfl rfl rfl ?_)
 refine VG (VT (vs:=resC rr) 4 rfl rfl rfl rfl (NR _) rfl rfl rfl ?_)
 refine xdf ?_
 have hfin:logL p (es ++ [e]) ⟨x.sp,a1,c1,a2,c2⟩=[pt p (.pointer (some ⟨x.sp,0,none⟩) :: .slice a1 (es.length+1) c1 :: .slice a2 ((logRun es).2.length+1) c2::lastsC (es ++ [e])) logT,kvH x.sp S',slH entT 7 a1 (es.length+1) c1 (flat entC es++entC e),slH resT 4 a2 ((logRun es).2.length+1) c2 (flat resC (logRun es).2++resC rr)]:=by
  unfold logL logCs
  rw[hll,hst1,hst2,List.length_append,flat_append,flat_append,flat_cons,flat_nil,flat_cons,flat_nil,List.append_nil,List.append_nil];rfl
 exact CR (Ret.cellTmp 4 5 rfl rfl rfl (RdL.many (ds:=resC rr) 4 rfl rfl) rfl (Imp.log ⟨x.sp,a1,c1,a2,c2⟩ (by rw[hfin];exact IP 0 rfl (IP 0 rfl (IP 0 rfl (IP 0 rfl Imp.nil))))).ent ⟨by rw[hrr,hz],by rw[happ]⟩)
end Lg
end Go.Proofs.YtmghpgpfeabghaaGreat
namespace Go.Proofs
open Go.Shelf
def Tryz.cloneM_ren : Go.Shelf.Ren := ⟨fun | 5 => 259 | 7 => 286 | n => n, fun | 23 => 229 | 25 => 9 | 3 => 345 | 4 => 4 | 20 => 20 | n => n, fun | n => n⟩
theorem Tryz.cloneM : Go.Proofs.SlLaysW.n5 Tryz.prog Tryz.cloneM_ren := {
  mixed := by kernel_rfl
  f5 := ⟨Tryz.f259.name, by decide, Tryz.func259.trans (congrArg some (by kernel_rfl))⟩
  f7 := Tryz.func286.trans (congrArg some (by kernel_rfl))
  t4 := Tryz.underlying4
  a4 := Tryz.isAgg4
  z4 := Tryz.sizeOf4
  v4 := Tryz.zeroValue4
  t20 := Tryz.underlying20
  a20 := Tryz.isAgg20
  z20 := Tryz.sizeOf20
  v20 := Tryz.zeroValue20
  t23 := Tryz.underlying229
  a23 := Tryz.isAgg229
  z23 := Tryz.sizeOf229
  v23 := Tryz.zeroValue229 }
end Go.Proofs
namespace Go.Proofs.YtmghpgpfeabghaaGreat
variable (Fr : Nat → Prop) (w : World)
namespace Kv
open Go Vg T Api Go.Shelf
attribute [local irreducible] VO VC VA
theorem call_cloneM:Callable Tryz.prog 259:=⟨_,Tryz.func259,by kernel_rfl,by kernel_rfl⟩
theorem cloneM_spec{κ α:Type}{c:κ→Value}{d:α→Value}{b:Nat}{xs:List (κ×α)}(Fr:Nat→Prop)(w:World)(h:MapBlk Fr w c d b xs):
  Tri Tryz.prog 259 [.map (some b)] Fr w [] (fun v L=>∃b',v=.map (some b')∧L=[mapH c d b' xs]):=
 ⟨call_cloneM,fun hl hs=>by
  obtain⟨es,clock,h1,h2,h3⟩:=h.at_
  exact Calls.mono (AnyW.maps_Clone Tryz.cloneM b es clock w h1) fun e w' ⟨h4,h5⟩=>⟨_,_,h4,⟨_,rfl,rfl⟩,by
   subst h5
   exact⟨Sat.alloc hl _ (mapH c d w.heap.size xs) ⟨rfl,es,clock,heap_alloc_new w _,h2,h3⟩ Sat.nil,Keep.alloc hl _⟩⟩⟩
theorem copy_spec{p:Nat}{S:KvM}(h:SatIn Fr [kvH p S] w):
  Tri Tryz.prog 204 [.pointer (some ⟨p,0,none⟩)] Fr w [] (fun v L=>∃p',v=.pointer (some ⟨p',0,none⟩)∧L=[kvH p' S]):=by
 obtain⟨b,hp,hm⟩:=kv_in h
 refine TF 12 Tryz.func204 rfl ym tabOk rfl rfl ?_
 refine xdf ?_
 refine xfb ?_
 refine zon ?_
 refine xey ?_
 refine VG (VK (Lc:=[]) (fun Fr w hF hs hS=>cloneM_spec Fr w (hm.of hF hs)) rfl rfl ?_)
 rintro _ _ ⟨b',rfl,rfl⟩
 refine xdf ?_
 refine VG (VI (LB (pv:=[(0,.map (some b'))]) [.map (some b')] rfl rfl rfl ym rfl) ?_)
 refine VG (VB (vs:=[.map (some b')]) rfl fun p'=>?_)
 refine xdf ?_
 exact CR (Ret.tmp 2 rfl rfl (Imp.kv Imp.refl).ent ⟨p',rfl,rfl⟩)
end Kv
namespace Lg
open Go Vg T Api Kv
attribute [local irreducible] VO VC VA
theorem cloneE_spec{a:Option Addr}{cap:Nat}{l:List EntryM}(h:RwIn entC 7 Fr w a l)(hl:l.length≤1000000):
  Tri Tryz.prog 205 [.slice a l.length cap] Fr w [] (fun v L=>∃a' c',v=.slice a' l.length c'∧L=[slH entT 7 a' l.length c' (flat entC l)]):=by
 refine TF 8 Tryz.func205 rfl ym tabOk rfl rfl ?_
 cases a with
 | none=>
  obtain rfl:l=[]:=by
   cases l with
   | nil=>rfl
   | cons x l=>obtain⟨b,o,h1,_⟩:=h.at_ yf;cases h1
  refine zpc ?_
  exact xfq
 | some a=>
  refine zon ?_
  refine CS (CG (VG (VO.buildSlice (n:=0) (pv:=[]) [] rfl rfl rfl rfl yo rfl fun b=>?_)))
  refine VO.ent (L':=[slH entT 7 (some ⟨b,0,none⟩) 0 0 []]) (Imp.sl (M:=[]) (cs:=[]) (rest:=[]) rfl (NR _) rfl (Imp.refl (L:=[pt b [] entT]))).ent ?_
  refine VG (VO.append (m:=l.length) (news:=flat entC l) 0 rfl rfl rfl rfl rfl rfl rfl (RwIn.row entC_len h) (flat_all entC_one l) (by show(0+l.length)*72≤_;omega) yd fun a' c' _=>?_)
  rw[Nat.zero_add,List.nil_append]
  refine xdf ?_
  exact xfr
theorem cloneR_spec{a:Option Addr}{cap:Nat}{l:List ResM}(h:RwIn resC 4 Fr w a l)(hl:l.length≤1000000):
  Tri Tryz.prog 206 [.slice a l.length cap] Fr w [] (fun v L=>∃a' c',v=.slice a' l.length c'∧L=[slH resT 4 a' l.length c' (flat resC l)]):=by
 refine TF 8 Tryz.func206 rfl ym tabOk rfl rfl ?_
 cases a with
 | none=>
  obtain rfl:l=[]:=by
   cases l with
   | nil=>rfl
   | cons x l=>obtain⟨b,o,h1,_⟩:=h.at_ yf;cases h1
  refine zpc ?_
  exact xfq
 | some a=>
  refine zon ?_
  refine CS (CG (VG (VO.buildSlice (n:=0) (pv:=[]) [] rfl rfl rfl rfl yo rfl fun b=>?_)))
  refine VO.ent (L':=[slH resT 4 (some ⟨b,0,none⟩) 0 0 []]) (Imp.sl (M:=[]) (cs:=[]) (rest:=[]) rfl (NR _) rfl (Imp.refl (L:=[pt b [] resT]))).ent ?_
  refine VG (VO.append (m:=l.length) (news:=flat resC l) 0 rfl rfl rfl rfl rfl rfl rfl (RwIn.row resC_len h) (flat_all resC_one l) (by show(0+l.length)*40≤_;omega) yd fun a' c' _=>?_)
  rw[Nat.zero_add,List.nil_append]
  refine xdf ?_
  exact xfr
theorem copy_spec{p:Nat}{es:List EntryM}(h:SatIn Fr [logH p es] w)(hl:es.length≤1000000):Tri Tryz.prog 138 [.pointer (some ⟨p,0,none⟩)] Fr w [] (fun v L=>∃q,v=.pointer (some ⟨q,0,none⟩)∧L=[logH q es]):=by
 obtain⟨x,hx⟩:=LogIn.of h
 have hb:=hx.blk
 unfold logCs at hb
 have hrl:=logRun_len es
 refine TF 26 Tryz.func138 rfl ym tabOk rfl rfl ?_
 refine xdf ?_
 refine xfj ?_
 refine zon ?_
 refine CS (CD (ts 0 4 (ts 5 4 (ts 10 4 (ts 15 4 (.only 4 (.only 9 (.only 14 (.take 19 (.only 20 (.take 21 .nil)))))))))) ym yr ?_)
 refine xfk ?_
 refine AG (VA.load rfl rfl rfl (RdL.blkA (ds:=lastsC es) hb rfl) ?_)
 refine AG (AO (OC (Lc:=[]) (R:=fun v L=>∃p',v=.pointer (some ⟨p',0,none⟩)∧L=[kvH p' (logRun es).1]) rfl (.refl _) (fun Fr w hF hs hS=>Kv.copy_spec Fr w (hx.kv.of hF hs))) rfl ?_ ?_)
 ·rintro _ _ ⟨_,⟨q,rfl,rfl⟩,rfl⟩
  exact yz
 rintro _ _ ⟨_,⟨q,rfl,rfl⟩,rfl⟩
 refine AG (AO (OC (Lc:=[]) (R:=fun v L=>∃a' c',v=.slice a' es.length c'∧L=[slH entT 7 a' es.length c' (flat entC es)]) rfl (.refl _) (fun Fr w hF hs hS=>cloneE_spec Fr w (hx.ents.of hF hs) hl)) rfl ?_ ?_)
 ·rintro _ _ ⟨_,⟨a1,c1,rfl,rfl⟩,rfl⟩
  exact yz
 rintro _ _ ⟨_,⟨a1,c1,rfl,rfl⟩,rfl⟩
 refine AG (AO (OC (Lc:=[]) (R:=fun v L=>∃a' c',v=.slice a' (logRun es).2.length c'∧L=[slH resT 4 a' (logRun es).2.length c' (flat resC (logRun es).2)]) rfl (.refl _) (fun Fr w hF hs hS=>cloneR_spec Fr w (hx.ress.of hF hs) yd)) rfl ?_ ?_)
 ·rintro _ _ ⟨_,⟨a2,c2,rfl,rfl⟩,rfl⟩
  exact yz
 rintro _ _ ⟨_,⟨a2,c2,rfl,rfl⟩,rfl⟩
 refine AG (AI rfl (LB (pv:=[(0,pV q),(1,.slice a1 es.length c1),(2,.slice a2 (logRun es).2.length c2),(3,.agg (lastsC es).toArray)]) (logCs es ⟨q,a1,c1,a2,c2⟩) rfl rfl rfl ym rfl) ?_)
 refine AG (AO (OpT.box (vs:=logCs es ⟨q,a1,c1,a2,c2⟩) rfl rfl) rfl ?_ ?_)
 ·rintro _ _ ⟨pb,rfl,rfl⟩
  exact yz
 rintro _ _ ⟨pb,rfl,rfl⟩
 refine xeh ?_
 exact CR (Ret.tmp 2 rfl rfl (Imp.log ⟨q,a1,c1,a2,c2⟩ (IP 0 rfl (IP 2 rfl (IP 1 rfl (IP 0 rfl Imp.nil))))).ent ⟨pb,rfl,rfl⟩)
end Lg
namespace Rd
open Go Vg T Api Kv Ch
attribute [local irreducible] VO VC VA
theorem small_bytes{n k b M:Nat}(h:n≤k)(hk:k*b≤M):n*b≤M:=Nat.le_trans (Nat.mul_le_mul_right b h) hk
def fgC(f:FrameM)(m:MemG):List Value:=f.cells m
abbrev frT:TypeId:=198
structure RdM where
 id:Int
 f:FrameM
 r:ResM
abbrev RdR:=RdM×MemG
def rdC(x:RdR):List Value:=.int .i64 x.1.id::(fgC x.1.f x.2++resC x.1.r)
theorem rdC_len(x:RdR):(rdC x).length=34:=rfl
abbrev rdT:TypeId:=211
abbrev rdsT:TypeId:=184
structure RdsM where
 cap:Int
 last:Int
 l:List RdM
structure RdsS where
 a:Option Addr
 c:Nat
 rows:List RdR
def rdsCs(R:RdsM)(x:RdsS):List Value:=[.int .i64 R.cap,.int .i64 R.last,.slice x.a x.rows.length x.c]
def rdsL(p:Nat)(R:RdsM)(x:RdsS):List HP:=[pt p (rdsCs R x) rdsT,slH rdT 34 x.a x.rows.length x.c (flat rdC x.rows)]
def RdsOk(R:RdsM)(x:RdsS):Prop:=x.rows.map Prod.fst=R.l
def rdsH(p:Nat)(R:RdsM):HP:=hex fun x=>hsep (hpure (RdsOk R x)::rdsL p R x)
structure RdsIn(Fr:Nat→Prop)(w:World)(p:Nat)(R:RdsM)(x:RdsS):Prop where
 ok:RdsOk R x
 blk:Blk Fr w p (rdsCs R x)
 rows:RwIn rdC 34 Fr w x.a x.rows
theorem RdsIn.of{Fr:Nat→Prop}{w:World}{p:Nat}{R:RdsM}(h:SatIn Fr [rdsH p R] w):∃x,RdsIn Fr w p R x:=by
 obtain⟨x,h⟩:=h.ex
 have h:=h.sep
 exact⟨x,h.pure 0 rfl,h.blk 1 rfl,RwIn.slH rdC_len (h.at_ 2 rfl)⟩
theorem HOpn.rds(p:Nat)(R:RdsM):HOpn (rdsH p R) (fun x=>RdsOk R x) (fun x=>rdsL p R x):=by
 rintro w ids ⟨s,h⟩ hn
 obtain⟨F,G,rfl,⟨rfl,h1⟩,h2⟩:=h
 exact xfs
theorem Imp.rds{p:Nat}{R:RdsM}{L M:List HP}(x:RdsS)(hs:RdsOk R x)(h:Imp L (rdsL p R x++M)):Imp L (rdsH p R::M):=
 Imp.ex x (Imp.sep (Imp.trans h (Imp.app (L:=rdsL p R x) (M:=_::rdsL p R x) (Imp.pure hs Imp.refl) Imp.refl)))
theorem RdsOk.len{R:RdsM}{x:RdsS}(h:RdsOk R x):x.rows.length=R.l.length:=by rw[←h];simp
def RdsM.new(cap:Int):RdsM:=⟨cap,0,[]⟩
theorem new_spec{c:Int}(h0:1≤c)(h1:c≤16):Tri Tryz.prog 69 [.int .i64 c] Fr w [] (fun v L=>∃q,v=.tuple #[.pointer (some ⟨q,0,none⟩),.int .i64 0]∧L=[rdsH q (RdsM.new c)]):=by
 refine TF 13 Tryz.func69 rfl ym tabOk rfl rfl ?_
 refine xdf ?_
 refine VG (VY 6 false rfl (DF yd) ?_)
 refine xdn ?_
 refine CP rfl (fun h=>by omega) (fun _=>CK ?_)
 refine xdf ?_
 refine VG (VI (LB (pv:=[(0,.int .i64 c)]) (rdsCs (RdsM.new c) ⟨none,0,[]⟩) rfl rfl rfl ym rfl) ?_)
 refine VG (VB (vs:=rdsCs (RdsM.new c) ⟨none,0,[]⟩) rfl fun q=>?_)
 refine xdf ?_
 exact CR (Ret.tmp2 2 3 rfl rfl rfl (Imp.rds (R:=RdsM.new c) ⟨none,0,[]⟩ rfl (IP 0 rfl (Imp.slNil Imp.nil))).ent ⟨q,rfl,rfl⟩)
section
variable {p:Nat} {R:RdsM}
theorem none_spec{c:Int}{cs:List Value}(h:Blk Fr w p (.int .i64 c::cs))(hc:1≤c):Tri Tryz.prog 141 [.pointer (some ⟨p,0,none⟩)] Fr w [] (fun v L=>v=.bool false∧L=[]):=by
 refine TF 12 Tryz.func141 rfl ym tabOk rfl rfl ?_
 refine xdf ?_
 refine VG (VO.split 5 rfl rfl (fun h=>by cases h) (fun _=>?_))
 refine xej ?_
 exact xek
theorem len_spec(h:SatIn Fr [rdsH p R] w)(hc:1≤R.cap):Tri Tryz.prog 97 [.pointer (some ⟨p,0,none⟩)] Fr w [] (fun v L=>v=.int .i64 R.l.length∧L=[]):=by
 obtain⟨x,hx⟩:=RdsIn.of h
 have hb:=hx.blk
 have hlen:=hx.ok.len
 refine TF 10 Tryz.func97 rfl ym tabOk rfl rfl ?_
 refine xdf ?_
 refine VG (VV (fun Fr w hF hs _=>none_spec Fr w (hb.of hF hs) hc) rfl ?_)
 refine zon ?_
 refine xdi ?_
 exact CR (Ret.int 2 rfl rfl (by rw[hlen]) ER ⟨rfl,rfl⟩)
def RdsM.lastI(R:RdsM):Int:=match R.l.getLast? with
 | some x=>x.id
 | none=>0
theorem last_spec(h:SatIn Fr [rdsH p R] w)(hc:1≤R.cap)(hl:R.l.length≤1000000):Tri Tryz.prog 176 [.pointer (some ⟨p,0,none⟩)] Fr w [] (fun v L=>v=.tuple #[.int .i64 R.lastI,.bool (!R.l.isEmpty)]∧L=[]):=by
 obtain⟨x,hx⟩:=RdsIn.of h
 have hb:=hx.blk
 have hlen:=hx.ok.len
 refine TF 20 Tryz.func176 rfl ym tabOk rfl rfl ?_
 refine xdf ?_
 refine VG (VV (fun Fr w hF hs _=>len_spec Fr w (h.of hF hs) hc) rfl ?_)
 refine xdf ?_
 refine CE rfl (fun h1=>?_) (fun h1=>CK ?_)
 ·have h0:R.l=[]:=List.eq_nil_of_length_eq_zero yd
  refine xdf ?_
  exact CR (Ret.tmp2 2 3 rfl rfl rfl ER ⟨by rw[RdsM.lastI,h0];rfl,rfl⟩)
 ·have hpos:0<x.rows.length:=by omega
  obtain⟨y,hy⟩:∃y,x.rows[x.rows.length-1]?=some y:=⟨_,GE yd⟩
  have hgl:R.l.getLast?=some y.1:=by rw[List.getLast?_eq_getElem?,←hx.ok,List.getElem?_map,List.length_map,hy];rfl
  obtain⟨eb,eo,hea,ra,rc⟩:=RwIn.rd (X:=⟨Tryz.prog,tab,tabOk,20,Fr,w⟩) hx.rows hy
  have hb2:Blk Fr w p [.int .i64 R.cap,.int .i64 R.last,.slice (some ⟨eb,eo,none⟩) x.rows.length x.c]:=by rw[←hea];exact hb
  refine CS (CD (ts 0 15 .nil) ym yr ?_)
  (repeat(first|refine yG (yN ?_)|refine yG (yE rfl rfl rfl (RdL.blk hb2 rfl) ?_)))
  refine xei ?_
  refine AG (AI rfl (light_idx (x.rows.length-1) rfl rfl rfl rfl rfl yd yd) ?_)
  refine xeh ?_
  refine AG (VA.load rfl rfl rfl (rc _ _ 0 _ rfl rfl) ?_)
  refine xeh ?_
  exact CR (Ret.tmp2 2 3 rfl rfl rfl ER ⟨by
   rw[RdsM.lastI,hgl]
   cases hR:R.l with
   | nil=>exfalso;apply h1;rw[hR];rfl
   | cons _ _=>rfl,rfl⟩)
end
theorem cloneM_spec{a:Option Addr}{cap:Nat}{l:List MemM}(h:RwIn memC 2 Fr w a l)(hl:l.length≤1000000):
  Tri Tryz.prog 256 [.slice a l.length cap] Fr w [] (fun v L=>∃a' c',v=.slice a' l.length c'∧L=[slH memT 2 a' l.length c' (flat memC l)]):=by
 refine xft ?_
 cases a with
 | none=>
  obtain rfl:l=[]:=by
   cases l with
   | nil=>rfl
   | cons x l=>obtain⟨b,o,h1,_⟩:=h.at_ yf;cases h1
  refine zpc ?_
  exact xfq
 | some a=>
  refine zon ?_
  refine CS (CG (VG (VO.buildSlice (n:=0) (pv:=[]) [] rfl rfl rfl rfl yo rfl fun b=>?_)))
  refine xfu ?_
  refine VG (VO.append (m:=l.length) (news:=flat memC l) 0 rfl rfl rfl rfl rfl rfl rfl (RwIn.row memC_len h) (flat_all memC_one _) yaa yd fun a' c' _=>?_)
  rw[Nat.zero_add,List.nil_append]
  refine xdf ?_
  exact xfr
theorem own_spec(f:FrameM){a:Option Addr}{cap:Nat}{ms:List MemM}(h:RwIn memC 2 Fr w a ms)(hl:ms.length≤1000000):Tri Tryz.prog 280 [.agg (fgC f (a,ms.length,cap)).toArray] Fr w [] (fun v L=>(∃m,v=.agg (fgC f m).toArray)∧L=[]):=by
 refine TF 10 Tryz.func280 rfl ym tabOk rfl rfl ?_
 refine CS (CG (VG (VB (vs:=fgC f (a,ms.length,cap)) rfl (fun b=>VG (VO.alloc rfl fun c=>VG (VN ?_))))))
 refine xds ?_
 refine VG (VK (Lc:=[]) (fun Fr w hF hs _=>cloneM_spec Fr w (h.of hF hs) hl) rfl rfl ?_)
 rintro _ _ ⟨a',c',rfl,rfl⟩
 refine VG (VO.st 2 (cs':=fgC f (a',ms.length,c')) rfl rfl rfl rfl (by show 24<29;omega) rfl rfl (VG (VN ?_)))
 refine CS (CG (VG (VL 2 (fgC f (a',ms.length,c')) rfl rfl rfl rfl (VG (VT (vs:=fgC f (a',ms.length,c')) (cs':=fgC f (a',ms.length,c')) 1 rfl rfl rfl rfl (NR _) rfl rfl rfl (VG (VN ?_)))))))
 exact CR (Ret.cell 2 rfl rfl rfl (RdL.many 1 rfl rfl) Imp.nil.ent ⟨⟨_,rfl⟩,rfl⟩)
def RdsM.put(R:RdsM)(f:FrameM)(r:ResM):RdsM:=if (R.l.length:Int)<R.cap then { R with last:=R.last+1,l:=R.l ++ [⟨R.last+1,f,r⟩] } else R
theorem put_spec(p:Nat)(R:RdsM)(hc:1≤R.cap)(hc1:R.cap≤16)(h0:0≤R.last)(h1:R.last≤1000000000)(f:FrameM){a:Option Addr}{cap:Nat}{ms:List MemM}(h:RwIn memC 2 Fr w a ms)(hl:ms.length≤1000000)(r:ResM):
  Tri Tryz.prog 247 [.pointer (some ⟨p,0,none⟩),.agg (fgC f (a,ms.length,cap)).toArray,.agg (resC r).toArray] Fr w [rdsH p R]
   (fun v L=>v=(if (R.l.length:Int)<R.cap then .tuple #[.int .i64 (R.last+1),.int .i64 0] else .tuple #[.int .i64 0,.int .i64 60])∧L=[rdsH p (R.put f r)]):=by
 refine TF 50 Tryz.func247 rfl ym tabOk rfl rfl ?_
 refine CS (CG (VG (VB (vs:=fgC f (a,ms.length,cap)) rfl fun fb=>VG (VB (vs:=resC r) rfl fun rb=>VG (VN ?_)))))
 refine VC.opn 2 rfl (HOpn.rds p R) ?_
 rintro x hx
 have hlen:=hx.len
 unfold rdsL
 show VC _ _ _ [pt p (rdsCs R x) rdsT,slH rdT 34 x.a x.rows.length x.c (flat rdC x.rows),pt rb (resC r) 154,pt fb (fgC f (a,ms.length,cap)) frT] _
 refine xdf ?_
 refine xfv ?_
 refine xdf ?_
 refine xdg ?_
 refine CS (CD (ts 0 11 .nil) ym yr ?_)
 refine xeh ?_
 by_cases hfull:(R.l.length:Int)<R.cap
 ·refine CP rfl (fun h=>by omega) (fun _=>CK ?_)
  refine zoo ?_
  refine VG (VO.st 0 (cs':=[.int .i64 R.cap,.int .i64 (R.last+1),.slice x.a x.rows.length x.c]) rfl rfl rfl rfl (Nat.le_of_ble_eq_true rfl) rfl rfl ?_)
  refine xeg ?_
  refine CS (CD (ts 0 10 (.take 11 (.only 10 (.take 12 (.only 13 (.only 14 (ts 15 2 (.only 17 .nil)))))))) ym yr ?_)
  refine xeh ?_
  refine AG (VA.ldA 3 (fgC f (a,ms.length,cap)) rfl rfl rfl rfl rfl ?_)
  refine AG (VA.ldA 2 (resC r) rfl rfl rfl rfl rfl ?_)
  refine AG (VA.callP (φ:=fun v=>∃m,v=.agg (fgC f m).toArray) (fun Fr w hF hs hS=>own_spec Fr w f (h.of hF hs) hl) rfl rfl yu ?_)
  rintro _ ⟨m,rfl⟩
  refine AG (AI rfl (LB (pv:=[(0,.int .i64 (R.last+1)),(1,.agg (fgC f m).toArray),(2,.agg (resC r).toArray)]) (rdC (⟨R.last+1,f,r⟩,m)) rfl rfl rfl ym rfl) ?_)
  refine AG (AO (OpT.buildSlice (n:=1) (pv:=[(0,.agg (rdC (⟨R.last+1,f,r⟩,m)).toArray)]) (cells:=rdC (⟨R.last+1,f,r⟩,m)) rfl rfl rfl rfl yo (fill_one rfl rfl rfl)) rfl ?_ ?_)
  ·rintro _ _ ⟨nb,rfl,rfl⟩
   exact yu
  rintro _ _ ⟨nb,rfl,rfl⟩
  refine AG (AO (OpT.append (m:=1) (news:=rdC (⟨R.last+1,f,r⟩,m)) 2 rfl rfl rfl rfl rfl rfl rfl (RdRow.pt 0 rfl rfl rfl) rfl (small_bytes (k:=101) yd yo) yd) rfl ?_ ?_)
  ·rintro _ _ ⟨a1,c1,rfl,hc1,rfl⟩
   exact yu
  rintro _ _ ⟨a1,c1,rfl,hc1,rfl⟩
  refine xfg ?_
  refine AG (VA.st 2 (cs':=[.int .i64 R.cap,.int .i64 (R.last+1),.slice a1 (x.rows.length+1) c1]) rfl rfl rfl rfl rfl (Nat.le_of_ble_eq_true rfl) rfl rfl yu ?_)
  refine xfg ?_
  refine xdt ?_
  have hput:R.put f r={ R with last:=R.last+1,l:=R.l ++ [⟨R.last+1,f,r⟩] }:=by rw[RdsM.put,if_pos hfull]
  refine CR (Ret.tmp2 6 7 rfl rfl rfl (Imp.rds ⟨a1,c1,x.rows ++ [(⟨R.last+1,f,r⟩,m)]⟩ (R:=R.put f r) ?_ ?_).ent ⟨by rw[if_pos hfull],rfl⟩)
  ·rw[hput];show List.map _ _=_;rw[List.map_append,hx];rfl
  ·rw[hput]
   unfold rdsL rdsCs
   rw[List.length_append,flat_append,flat_cons,flat_nil,List.append_nil]
   exact(pkZ [2,0])
 ·refine CP rfl (fun h=>?_) (fun h=>by omega)
  have hput:R.put f r=R:=by rw[RdsM.put,if_neg hfull]
  refine xdf ?_
  exact CR (Ret.tmp2 6 7 rfl rfl rfl (Imp.rds x hx (IP 0 rfl (IP 0 rfl Imp.nil))).ent ⟨by rw[if_neg hfull],by rw[hput]⟩)
end Rd
namespace Vg
open Go
section
variable {tB:TypeId}
end
theorem RL.Ok.ld{α:Type}{c:α→List Value}{n t:Nat}{r:RL α}(h:r.Ok c n){k:Nat}{x:α}(hx:r.xs[k]?=some x)(hc:(c x).length=n):∃b off,r.blk=some b∧r.addr=some ⟨b,off,Option.none⟩ ∧
  ∀{X:Cx} {L:List HP} (i:Nat),L[i]?=some (r.h t)→(∀ti:TI,n=ti.size→ti.und.agg=true→RdL X L ti b (off+k*n) (.agg (c x).toArray)) ∧
   ∀(ti:TI) (j:Nat) (v:Value),ti.und.agg=false→(c x)[j]?=some v→RdL X L ti b (off+k*n+j) v:=by
 obtain⟨b,off,h1,h2,h3⟩:=h.nth hx
 refine⟨b,off,h1,h2,fun {X L} i hL=>?_⟩
 rw[RL.h_pt h1] at hL
 refine⟨fun ti hn ha=>RdL.many i hL (by rw[←hn];exact h3) (by rw[hc,hn]) ha,fun ti j v ha hv=>RdL.one i hL ?_ ha⟩
 rw[←h3,List.getElem?_take] at hv
 split at hv
 ·rw[List.getElem?_drop] at hv;exact hv
 ·cases hv
end Vg
namespace Rd
open Go Vg T Api Kv Ch
attribute [local irreducible] VO VC VA
theorem blk_keep{Fr Fr':Nat→Prop}{w w':World}{b:Nat}{cs:List Value}(h:Blk Fr w b cs)(hF:∀b,Fr b→Fr' b)(hk:Keep Fr w w'):Blk Fr' w' b cs:=by
 obtain⟨t,fz,ht⟩:=h.at_
 exact⟨hF b h.fr,t,fz,by rw[hk.block b h.fr];exact ht⟩
theorem take_spec(p:Nat)(R:RdsM)(hc:1≤R.cap)(hl:R.l.length≤100)(g:FuncId)(capt:List Value)(st:RdM→Bool)
  (hg:∀Fr' w',(∀b,Fr b→Fr' b)→Keep Fr w w'→∀row:RdR,Tri Tryz.prog g (.agg (rdC row).toArray::capt) Fr' w' [] (fun v L=>v=.bool (st row.1)∧L=[])):
  Tri Tryz.prog 159 [.pointer (some ⟨p,0,none⟩),fnV g [] capt] Fr w [rdsH p R]
   (fun v L=>∃a c rows,rows.map Prod.fst=R.l.filter (fun x=>!st x)∧v=.slice a rows.length c∧L=[rdsH p { R with l:=R.l.filter st },slH rdT 34 a rows.length c (flat rdC rows)]):=by
 refine TF 37 Tryz.func159 rfl ym tabOk rfl rfl ?_
 refine VC.opn 0 rfl (HOpn.rds p R) ?_
 rintro x hx
 have hlen:=hx.len
 unfold rdsL
 show VC _ _ _ [pt p (rdsCs R x) rdsT,slH rdT 34 x.a x.rows.length x.c (flat rdC x.rows)] _
 refine xdf ?_
 refine xfv ?_
 refine zon ?_
 refine VC.opn 1 rfl (HOpn.rl rdT x.a x.c x.rows rdC_len) ?_
 rintro r ⟨rok,hrv,hrx⟩
 show VC _ _ _ [r.h rdT,pt p (rdsCs R x) rdsT] _
 refine xds ?_
 refine VC.loop (σ:=Nat×List RdR×List RdR×(Option Addr×Nat)×(Option Addr×Nat)) (fun y=>[(0,pV p),(1,fnV g [] capt),(5,.slice y.2.2.2.1.1 y.2.1.length y.2.2.2.1.2),(6,.slice y.2.2.2.2.1 y.2.2.1.length y.2.2.2.2.2),(14,.slice x.a x.rows.length x.c),(15,.int .i64 x.rows.length),(16,.int .i64 y.1)])
  (fun y=>[slH rdT 34 y.2.2.2.1.1 y.2.1.length y.2.2.2.1.2 (flat rdC y.2.1),slH rdT 34 y.2.2.2.2.1 y.2.2.1.length y.2.2.2.2.2 (flat rdC y.2.2.1),pt p (rdsCs R x) rdsT,r.h rdT])
  (fun y=>y.1≤x.rows.length∧y.2.1.map Prod.fst=(R.l.take y.1).filter st∧y.2.2.1.map Prod.fst=(R.l.take y.1).filter (fun z=>!st z)∧y.2.1.length≤y.1∧y.2.2.1.length≤y.1) (fun y=>x.rows.length-y.1) (0,[],[],(none,0),(none,0))
  ⟨Nat.zero_le _,rfl,rfl,NR _,NR _⟩ sbZ (Imp.slNil (Imp.slNil (pkZ [1,0]))).ent ?_
 rintro⟨i,K,D,⟨ak,ck⟩,⟨ag,cg⟩⟩ ⟨hi,hK,hD,hKl,hDl⟩
 dsimp only at hi hK hD hKl hDl ⊢
 refine xdf ?_
 refine CP rfl (fun h1=>CK ?_) (fun h1=>CX ?_)
 ·have hi2:i<x.rows.length:=by omega
  obtain⟨row,hrow⟩:∃row,x.rows[i]?=some row:=⟨_,GE hi2⟩
  have hli:R.l[i]?=some row.1:=by rw[←hx,List.getElem?_map,hrow];rfl
  have htk:R.l.take (i+1)=R.l.take i ++ [row.1]:=by rw[List.take_add_one,hli];rfl
  obtain⟨rb,ro,r1,r2,hrd⟩:=rok.ld (t:=rdT) (hrx▸hrow) rfl
  have hxa:x.a=some ⟨rb,ro,none⟩:=by rw[RL.v,r2,hrx] at hrv;injection hrv with e1;exact e1.symm
  rw[hxa]
  refine zpp ?_
  refine VG (VO.load rfl rfl ((hrd 3 rfl).1 _ rfl rfl) ?_)
  refine VG (VO.alloc rfl fun tb=>?_)
  refine VG (VT (vs:=rdC row) 0 rfl rfl rfl rfl (NR _) rfl rfl rfl ?_)
  refine xdf ?_
  refine xfw ?_
  refine VG (VO.callFV (u:=.bool (st row.1)) rfl (fun Fr w hF hs hS=>hg Fr w hF hs.keep row) rfl ?_)
  refine xdf ?_
  refine CC rfl (fun hst=>?_) (fun hst=>?_)
  ·refine xdf ?_
   refine xfw ?_
   refine VG (VO.buildSlice (n:=1) (pv:=[(0,.agg (rdC row).toArray)]) (rdC row) rfl rfl rfl rfl yo (fill_one rfl rfl rfl) fun nb=>?_)
   refine VG (VO.append (m:=1) (news:=rdC row) 2 rfl rfl rfl rfl rfl rfl rfl (RdRow.pt 0 rfl rfl rfl) rfl (small_bytes (k:=201) yd yo) yd fun a2 c2 hc2=>?_)
   refine zor ?_
   have hL:(K ++ [row]).length=K.length+1:=by simp
   have hF:flat rdC (K ++ [row])=flat rdC K++rdC row:=by simp[flat_append,flat_cons,flat_nil]
   refine⟨(i+1,K ++ [row],D,(a2,c2),(ag,cg)),⟨hi2,?_,?_,by dsimp only;rw[hL];omega,by dsimp only;omega⟩,by dsimp only;omega,SC rfl (SC rfl (SC (by rw[hL];rfl) sbZ)),?_⟩
   ·dsimp only;rw[List.map_append,hK,htk,List.filter_append];simp[hst]
   ·dsimp only;rw[hD,htk,List.filter_append];simp[hst]
   ·dsimp only;rw[hL,hF];exact(pkZ [0,2,2,2]).ent
  ·refine xdf ?_
   refine xfw ?_
   refine VG (VO.buildSlice (n:=1) (pv:=[(0,.agg (rdC row).toArray)]) (rdC row) rfl rfl rfl rfl yo (fill_one rfl rfl rfl) fun nb=>?_)
   refine VG (VO.append (m:=1) (news:=rdC row) 3 rfl rfl rfl rfl rfl rfl rfl (RdRow.pt 0 rfl rfl rfl) rfl (small_bytes (k:=201) yd yo) yd fun a2 c2 hc2=>?_)
   refine zor ?_
   have hL:(D ++ [row]).length=D.length+1:=by simp
   have hF:flat rdC (D ++ [row])=flat rdC D++rdC row:=by simp[flat_append,flat_cons,flat_nil]
   refine⟨(i+1,K,D ++ [row],(ak,ck),(a2,c2)),⟨hi2,?_,?_,by dsimp only;omega,by dsimp only;rw[hL];omega⟩,by dsimp only;omega,SC rfl (SC rfl (SC rfl (SC (by rw[hL];rfl) sbZ))),?_⟩
   ·dsimp only;rw[hK,htk,List.filter_append];simp[hst]
   ·dsimp only;rw[List.map_append,hD,htk,List.filter_append];simp[hst]
   ·dsimp only;rw[hL,hF];exact(pkZ [3,0,2,2]).ent
 ·obtain rfl:i=x.rows.length:=by omega
  rw[hlen,List.take_length] at hK hD
  refine xdf ?_
  refine VG (VO.st 2 (cs':=[.int .i64 R.cap,.int .i64 R.last,.slice ak K.length ck]) rfl rfl rfl rfl (Nat.le_of_ble_eq_true rfl) rfl rfl ?_)
  refine xdf ?_
  exact CR (Ret.tmp 4 rfl rfl (Imp.rds (R:={ R with l:=R.l.filter st }) ⟨ak,ck,K⟩ hK (IP 2 rfl (IP 0 rfl (IP 0 rfl Imp.nil)))).ent ⟨ag,cg,D,hD,rfl,rfl⟩)
section
variable {p:Nat} {R:RdsM}
def surely(id:Int)(x:RdM):Bool:=decide (id<x.id)
def lives(now:Int)(x:RdM):Bool:=decide (now≤x.f.deadline)
theorem sure1_spec{b:Nat}{id:Int}(hb:Blk Fr w b [.int .i64 id])(row:RdR):Tri Tryz.prog 255 [.agg (rdC row).toArray,.pointer (some ⟨b,0,none⟩)] Fr w [] (fun v L=>v=.bool (surely id row.1)∧L=[]):=by
 refine TF 8 Tryz.func255 rfl ym tabOk rfl rfl ?_
 refine CS (CG (VG (VB (vs:=rdC row) rfl fun rb=>?_)))
 refine xfx ?_
 exact CR (Ret.tmp 3 rfl rfl Imp.nil.ent ⟨rfl,rfl⟩)
theorem expire1_spec{b:Nat}{now:Int}(hb:Blk Fr w b [.int .i64 now])(row:RdR):Tri Tryz.prog 160 [.agg (rdC row).toArray,.pointer (some ⟨b,0,none⟩)] Fr w [] (fun v L=>v=.bool (lives now row.1)∧L=[]):=by
 refine TF 9 Tryz.func160 rfl ym tabOk rfl rfl ?_
 refine CS (CG (VG (VB (vs:=rdC row) rfl fun rb=>?_)))
 refine xfx ?_
 exact CR (Ret.tmp 3 rfl rfl Imp.nil.ent ⟨rfl,rfl⟩)
theorem flush1_spec(row:RdR):Tri Tryz.prog 285 [.agg (rdC row).toArray] Fr w [] (fun v L=>v=.bool false∧L=[]):=by
 refine TF 3 Tryz.func285 rfl ym tabOk rfl rfl ?_
 refine CS (CG (VG (VB (vs:=rdC row) rfl fun rb=>?_)))
 refine xdf ?_
 exact xec
theorem sure_spec(hc:1≤R.cap)(hl:R.l.length≤100)(id:Int):Tri Tryz.prog 198 [.pointer (some ⟨p,0,none⟩),.int .i64 id] Fr w [rdsH p R]
   (fun v L=>∃a c rows,rows.map Prod.fst=R.l.filter (fun x=>!surely id x)∧v=.slice a rows.length c∧L=[rdsH p { R with l:=R.l.filter (surely id) },slH rdT 34 a rows.length c (flat rdC rows)]):=by
 refine TF 8 Tryz.func198 rfl ym tabOk rfl rfl ?_
 refine CS (CG (VG (VO.opx (OpT.box (vs:=[.int .i64 id]) rfl rfl) ?_)))
 rintro _ _ ⟨b,rfl,rfl⟩
 refine xdf ?_
 refine xdm ?_
 refine VO.ent (L':=[rdsH p R,pt b [.int .i64 id] 3]) (pkZ [1,0]).ent ?_
 refine VG (VK (Lc:=[rdsH p R]) (fun Fr w hF hw hS=>take_spec Fr w p R hc hl 255 [.pointer (some ⟨b,0,none⟩)] (surely id) (fun Fr' w' hF' hk row=>sure1_spec Fr' w' (blk_keep (hS.blk 0 rfl) hF' hk) row)) rfl rfl ?_)
 rintro _ _ ⟨a,c,rows,h1,rfl,rfl⟩
 refine xdf ?_
 exact xfy
theorem expire_spec(hc:1≤R.cap)(hl:R.l.length≤100)(now:Int):Tri Tryz.prog 113 [.pointer (some ⟨p,0,none⟩),.int .i64 now] Fr w [rdsH p R]
   (fun v L=>∃a c rows,rows.map Prod.fst=R.l.filter (fun x=>!lives now x)∧v=.slice a rows.length c∧L=[rdsH p { R with l:=R.l.filter (lives now) },slH rdT 34 a rows.length c (flat rdC rows)]):=by
 refine TF 8 Tryz.func113 rfl ym tabOk rfl rfl ?_
 refine CS (CG (VG (VO.opx (OpT.box (vs:=[.int .i64 now]) rfl rfl) ?_)))
 rintro _ _ ⟨b,rfl,rfl⟩
 refine xdf ?_
 refine xdm ?_
 refine VO.ent (L':=[rdsH p R,pt b [.int .i64 now] 3]) (pkZ [1,0]).ent ?_
 refine VG (VK (Lc:=[rdsH p R]) (fun Fr w hF hw hS=>take_spec Fr w p R hc hl 160 [.pointer (some ⟨b,0,none⟩)] (lives now) (fun Fr' w' hF' hk row=>expire1_spec Fr' w' (blk_keep (hS.blk 0 rfl) hF' hk) row)) rfl rfl ?_)
 rintro _ _ ⟨a,c,rows,h1,rfl,rfl⟩
 refine xdf ?_
 exact xfy
theorem flush_spec(hc:1≤R.cap)(hl:R.l.length≤100):Tri Tryz.prog 251 [.pointer (some ⟨p,0,none⟩)] Fr w [rdsH p R]
   (fun v L=>∃a c rows,rows.map Prod.fst=R.l∧v=.slice a rows.length c∧L=[rdsH p { R with l:=[] },slH rdT 34 a rows.length c (flat rdC rows)]):=by
 refine TF 5 Tryz.func251 rfl ym tabOk rfl rfl ?_
 refine xdf ?_
 refine VG (VK (Lc:=[rdsH p R]) (fun Fr w hF hw hS=>take_spec Fr w p R hc hl 285 [] (fun _=>false) (fun Fr' w' hF' hk row=>flush1_spec Fr' w' row)) rfl rfl ?_)
 rintro _ _ ⟨a,c,rows,h1,rfl,rfl⟩
 refine xdf ?_
 refine CR (Ret.tmp 2 rfl rfl ER ⟨a,c,rows,?_,rfl,?_⟩)
 ·rw[h1];simp
 ·rw[show R.l.filter (fun _=>false)=[] from List.filter_eq_nil_iff.2 yf];rfl
end
end Rd
namespace Ring
open Go Vg T Api
attribute [local irreducible] VO VC VA
theorem clone_spec(m:MemG)(h:MIn Fr w m):Tri Tryz.prog 256 [.slice m.1 m.2.1 m.2.2] Fr w [] (fun v L=>∃m':MemG,v=.slice m'.1 m'.2.1 m'.2.2∧L=[mmH m']):=by
 obtain⟨a,n,c⟩:=m
 obtain⟨l,hl,hl2,h⟩:=h
 dsimp only at hl h ⊢
 subst hl
 have key:∀(a':Option Addr) (c':Nat),Imp [slH memT 2 a' l.length c' (flat memC l)] [mmH (a',l.length,c')]:=fun a' c'=>
  Imp.ex (f:=fun ms:List MemM=>hsep [hpure (ms.length=l.length∧ms.length≤1000000),slH memT 2 a' l.length c' (flat memC ms)]) l (Imp.sep (Ls:=[hpure _,slH memT 2 a' l.length c' (flat memC l)]) (Imp.pure ⟨rfl,hl2⟩ Imp.refl))
 refine xft ?_
 cases a with
 | none=>
  obtain rfl:l=[]:=by
   cases l with
   | nil=>rfl
   | cons x l=>obtain⟨b,o,h1,_⟩:=h.at_ yf;cases h1
  refine zpc ?_
  exact CR (Ret.tmp 2 rfl rfl (Imp.mm0 Imp.nil).ent ⟨(none,0,0),rfl,rfl⟩)
 | some a=>
  refine zon ?_
  refine CS (CG (VG (VO.buildSlice (n:=0) (pv:=[]) [] rfl rfl rfl rfl yo rfl fun b=>?_)))
  refine xfu ?_
  refine VG (VO.append (m:=l.length) (news:=flat memC l) 0 rfl rfl rfl rfl rfl rfl rfl (RwIn.row memC_len h) (flat_all memC_one _) yaa yd fun a' c' _=>?_)
  rw[Nat.zero_add,List.nil_append]
  refine xdf ?_
  exact CR (Ret.tmp 2 rfl rfl (key a' c').ent ⟨(a',l.length,c'),rfl,rfl⟩)
theorem own_spec(p:FM)(h:MIn Fr w p.2):Tri Tryz.prog 297 [.agg (fmc p).toArray] Fr w [] (fun v L=>∃m,v=.agg (fmc (p.1,m)).toArray∧L=[mmH m]):=by
 refine TF 10 Tryz.func297 rfl ym tabOk rfl rfl ?_
 refine CS (CG (VG (VB (vs:=fmc p) rfl (fun b=>VG (VO.alloc rfl fun c=>VG (VN ?_))))))
 refine xds ?_
 refine VG (VK (Lc:=[]) (fun Fr w hF hs _=>clone_spec Fr w p.2 (h.of hF hs)) rfl rfl ?_)
 rintro _ _ ⟨m,rfl,rfl⟩
 refine VG (VO.st 2 (cs':=fmc (p.1,m)) rfl rfl rfl rfl (by show 24<29;omega) rfl rfl (VG (VN ?_)))
 refine CS (CG (VG (VL 2 (fmc (p.1,m)) rfl rfl rfl rfl (VG (VT (vs:=fmc (p.1,m)) (cs':=fmc (p.1,m)) 1 rfl rfl rfl rfl (NR _) rfl rfl rfl (VG (VN ?_)))))))
 exact CR (Ret.cell 2 rfl rfl rfl (RdL.many 1 rfl rfl) (IP 0 rfl Imp.nil).ent ⟨m,rfl,rfl⟩)
structure RingS where
 pb:Nat
 pl:List FM
 first:Nat
structure RingOk(q:List FrameM)(cap:Nat)(s:RingS):Prop where
 len:s.pl.length=cap
 cap0:1≤cap
 cap1:cap≤64
 first:s.first<cap
 qlen:q.length≤cap
 at_:∀i,i<q.length→(s.pl[(s.first+i) % cap]?).map Prod.fst=q[i]?
def ringCs(q:List FrameM)(cap:Nat)(s:RingS):List Value:=[.slice (some ⟨s.pb,0,none⟩) cap cap,.int .i64 s.first,.int .i64 q.length]
def ringL(p:Nat)(q:List FrameM)(cap:Nat)(s:RingS):List HP:=pt p (ringCs q cap s) 299::pt s.pb (flat fmc s.pl) 198::s.pl.map fun r=>mmH r.2
def ringH(p:Nat)(q:List FrameM)(cap:Nat):HP:=hex fun s=>hsep (hpure (RingOk q cap s)::ringL p q cap s)
structure RingIn(Fr:Nat→Prop)(w:World)(p:Nat)(q:List FrameM)(cap:Nat)(s:RingS):Prop where
 ok:RingOk q cap s
 ring:Blk Fr w p (ringCs q cap s)
 places:Blk Fr w s.pb (flat fmc s.pl)
 mem:∀(i:Nat) (r:FM),s.pl[i]?=some r→MIn Fr w r.2
theorem RingIn.of{Fr:Nat→Prop}{w:World}{p:Nat}{q:List FrameM}{cap:Nat}(h:SatIn Fr [ringH p q cap] w):∃s,RingIn Fr w p q cap s:=by
 obtain⟨s,h⟩:=h.ex
 have h:=h.sep
 exact⟨s,h.pure 0 rfl,h.blk 1 rfl,h.blk 2 rfl,fun i r hr=>MIn.sat (h.at_ (i+3) (mm_at hr))⟩
theorem HOpn.ring(p:Nat)(q:List FrameM)(cap:Nat):HOpn (ringH p q cap) (fun s=>RingOk q cap s) (fun s=>ringL p q cap s):=by
 rintro w ids ⟨s,h⟩ hn
 obtain⟨F,G,rfl,⟨rfl,h1⟩,h2⟩:=h
 exact xfs
theorem Imp.ring{p:Nat}{q:List FrameM}{cap:Nat}{L M:List HP}(s:RingS)(hs:RingOk q cap s)(h:Imp L (ringL p q cap s++M)):Imp L (ringH p q cap::M):=
 Imp.ex s (Imp.sep (Imp.trans h (Imp.app (L:=ringL p q cap s) (M:=_::ringL p q cap s) (Imp.pure hs Imp.refl) Imp.refl)))
theorem none_spec{p:Nat}{a:Addr}{n c:Nat}{cs:List Value}(h:Blk Fr w p (.slice (some a) n c::cs)):Tri Tryz.prog 261 [.pointer (some ⟨p,0,none⟩)] Fr w [] (fun v L=>v=.bool false∧L=[]):=by
 refine TF 12 Tryz.func261 rfl ym tabOk rfl rfl ?_
 refine xdf ?_
 refine VG (VO.split 5 rfl rfl (fun h=>by cases h) (fun _=>?_))
 refine xej ?_
 exact xep
theorem place_spec{p pb first cap:Nat}{cs:List Value}(i:Nat)(h:Blk Fr w p (.slice (some ⟨pb,0,none⟩) cap cap :: .int .i64 first::cs))(hc:1≤cap)(h1:first≤1000)(h2:i≤1000):
  Tri Tryz.prog 290 [.pointer (some ⟨p,0,none⟩),.int .i64 i] Fr w [] (fun v L=>v=.int .i64 ((first+i) % cap:Nat)∧L=[]):=by
 refine TF 17 Tryz.func290 rfl ym tabOk rfl rfl ?_
 refine xdf ?_
 refine CD (ts 0 13 .nil) ym ym ?_
 refine xen ?_
 refine AG (AP rfl rfl rfl ?_ ?_ ?_)
 ·omega
 ·omega
 refine xen ?_
 refine AG (AI rfl (light_rem rfl rfl ?_ ?_) ?_)
 ·omega
 ·omega
 refine xeh ?_
 exact CR (Ret.int 4 rfl rfl (by push_cast;rfl) ER ⟨rfl,rfl⟩)
theorem len_spec{p:Nat}{q:List FrameM}{cap:Nat}(h:SatIn Fr [ringH p q cap] w):Tri Tryz.prog 208 [.pointer (some ⟨p,0,none⟩)] Fr w [] (fun v L=>v=.int .i64 q.length∧L=[]):=by
 obtain⟨s,h⟩:=RingIn.of h
 have hb:=h.ring
 refine TF 9 Tryz.func208 rfl ym tabOk rfl rfl ?_
 refine xdf ?_
 refine VG (VV (fun Fr w hF hs _=>none_spec Fr w (hb.of hF hs)) rfl ?_)
 refine zon ?_
 refine xdi ?_
 exact xem
theorem RingOk.place{q:List FrameM}{cap:Nat}{s:RingS}(h:RingOk q cap s){i:Nat}(hi:i<q.length):∃p:FM,s.pl[(s.first+i) % cap]?=some p∧q[i]?=some p.1:=by
 have h1:=h.at_ i hi
 have h2:(s.first+i) % cap<s.pl.length:=by rw[h.len];exact Nat.mod_lt _ h.cap0
 refine⟨_,GE h2,?_⟩
 rw[←h1,GE h2];rfl
def atR(q:List FrameM)(i:Nat)(v:Value)(L:List HP):Prop:=match q[i]? with
 | some f=>∃m,v=.tuple #[.agg (fmc (f,m)).toArray,.bool true]∧L=[mmH m]
 | none=>v=.tuple #[.agg (fmc fmz).toArray,.bool false]∧L=[]
theorem at_spec{p:Nat}{q:List FrameM}{cap:Nat}(i:Nat)(h:SatIn Fr [ringH p q cap] w):Tri Tryz.prog 289 [.pointer (some ⟨p,0,none⟩),.int .i64 i] Fr w [] (atR q i):=by
 obtain⟨s,h⟩:=RingIn.of h
 have hb:=h.ring
 have hp:=h.places
 refine TF 31 Tryz.func289 rfl ym tabOk rfl rfl ?_
 refine CS (CG (VG (VO.alloc rfl fun b=>VG (VN ?_))))
 refine xdf ?_
 refine VG (VV (fun Fr w hF hs _=>none_spec Fr w (hb.of hF hs)) rfl (VG (VY 8 false rfl rfl ?_)))
 refine xdf ?_
 refine VG (VY 12 false rfl (DF yd) ?_)
 refine xdi ?_
 refine CP rfl (fun h1=>?_) (fun h1=>?_)
 ·refine CS (CG (VG (VI (LB (pv:=[]) (fmc fmz) rfl rfl rfl rfl rfl) (VG (VT (vs:=fmc fmz) (cs':=fmc fmz) 0 rfl rfl rfl rfl (NR _) rfl rfl rfl (VG (VN ?_)))))))
  refine CR (Ret.cellTmp 4 5 rfl rfl rfl (RdL.many 0 rfl rfl) rfl Imp.nil.ent ?_)
  have h1:q.length≤i:=by omega
  simp only[atR,List.getElem?_eq_none h1]
  exact⟨rfl,trivial⟩
 ·have h1:i<q.length:=by omega
  have hq:=h.ok.qlen
  have hc:=h.ok.cap1
  have hf:=h.ok.first
  obtain⟨f,hf1,hf2⟩:=h.ok.place h1
  have hlt:(s.first+i) % cap<cap:=Nat.mod_lt _ h.ok.cap0
  refine CK ?_
  refine CS (CD (ts 0 6 (.only 6 (ts 7 2 (.only 9 (.only 10 (.take 11 .nil)))))) ym ym ?_)
  refine xfk ?_
  refine AG (VA.callP (fun Fr w hF hs _=>place_spec Fr w i (hb.of hF hs) h.ok.cap0 yd yd) rfl rfl (Pd.cons (RdL.blk hb rfl) Pd.nil).st ?_)
  rintro _ rfl
  refine AG (AI rfl (light_idx ((s.first+i) % cap) rfl rfl rfl rfl rfl rfl hlt) ?_)
  have hrow:((flat fmc s.pl).drop (0+(s.first+i) % cap*29)).take 29=fmc f:=by
   have:=flat_row fmc_len hf1 []
   rwa[List.append_nil,←Nat.zero_add (_*29)] at this
  refine AG (VA.load rfl rfl rfl (RdL.blkA hp hrow) ?_)
  refine AG (AO (OC (Lc:=[]) (R:=fun v L=>∃m,v=.agg (fmc (f.1,m)).toArray∧L=[mmH m]) rfl (.refl _) (fun Fr w hF hs _=>own_spec Fr w f ((h.mem _ _ hf1).of hF hs))) rfl ?_ ?_)
  ·rintro _ _ ⟨_,⟨m,rfl,rfl⟩,rfl⟩
   exact yab
  rintro _ _ ⟨_,⟨m,rfl,rfl⟩,rfl⟩
  refine AG (AT (vs:=fmc (f.1,m)) (cs':=fmc (f.1,m)) 1 rfl rfl rfl rfl rfl (NR _) rfl rfl rfl yab ?_)
  refine xeh ?_
  refine CR (Ret.cellTmp 4 5 rfl rfl rfl (RdL.many 1 rfl rfl) rfl (L':=[mmH m]) (IP 0 rfl Imp.nil).ent ?_)
  simp only[atR,hf2]
  exact⟨m,rfl,rfl⟩
theorem front_spec{p:Nat}{q:List FrameM}{cap:Nat}(h:SatIn Fr [ringH p q cap] w):Tri Tryz.prog 270 [.pointer (some ⟨p,0,none⟩)] Fr w [] (atR q 0):=by
 refine TF 8 Tryz.func270 rfl ym tabOk rfl rfl ?_
 refine CS (CG (VG (VO.alloc rfl fun b=>VG (VN ?_))))
 refine xdf ?_
 refine VG (VK (Lc:=[]) (R:=atR q 0) (fun Fr w hF hs _=>at_spec Fr w 0 (h.of hF hs)) rfl rfl ?_)
 intro v L hv
 unfold atR at hv
 cases hq:q[0]? with
 | some f=>
  rw[hq] at hv
  obtain⟨m,rfl,rfl⟩:=hv
  refine xfz ?_
  refine CR (Ret.cellTmp 2 3 rfl rfl rfl (RdL.many 1 rfl rfl) rfl (L':=[mmH m]) (IP 0 rfl Imp.nil).ent ?_)
  simp only[atR,hq]
  exact⟨m,rfl,rfl⟩
 | none=>
  rw[hq] at hv
  obtain⟨rfl,rfl⟩:=hv
  refine xga ?_
  refine xgb ?_
  simp only[atR,hq]
  exact⟨rfl,trivial⟩
theorem mod_ne{a i j c:Nat}(h1:i<j)(h2:j<c):(a+i) % c≠(a+j) % c:=fun h=>by
 have:=Nat.sub_mod_eq_zero_of_mod_eq h.symm
 rw[show a+j-(a+i)=j-i from by omega,Nat.mod_eq_of_lt yd] at this
 omega
theorem RingOk.push{q:List FrameM}{cap:Nat}{s:RingS}(h:RingOk q cap s)(hq:q.length<cap)(f:FrameM)(m:MemS):RingOk (q ++ [f]) cap { s with pl:=s.pl.set ((s.first+q.length) % cap) (f,m) }:=by
 have hlt:(s.first+q.length) % cap<s.pl.length:=by rw[h.len];exact Nat.mod_lt _ h.cap0
 refine⟨by simpa using h.len,h.cap0,h.cap1,h.first,by simp;omega,fun i hi=>?_⟩
 simp only[List.length_append,List.length_singleton] at hi
 by_cases hi2:i<q.length
 ·rw[List.getElem?_append_left hi2,List.getElem?_set_ne (fun e=>mod_ne hi2 hq e.symm)]
  exact h.at_ i hi2
 ·have:i=q.length:=by omega
  subst this
  rw[List.getElem?_set_self hlt];simp
theorem RingOk.pop{f:FrameM}{q:List FrameM}{cap:Nat}{s:RingS}(h:RingOk (f::q) cap s)(z:FM):RingOk q cap { s with first:=(s.first+1) % cap,pl:=s.pl.set s.first z }:=by
 have hq:=h.qlen
 simp only[List.length_cons] at hq
 refine⟨by simpa using h.len,h.cap0,h.cap1,Nat.mod_lt _ h.cap0,by omega,fun i hi=>?_⟩
 have h1:=h.at_ (i+1) yk
 have h2:((s.first+1) % cap+i) % cap=(s.first+(i+1)) % cap:=by rw[Nat.mod_add_mod];congr 1;omega
 have h3:s.first≠(s.first+(i+1)) % cap:=fun e=>by
  have:=mod_ne (a:=s.first) (i:=0) (j:=i+1) (c:=cap) yd yd
  rw[Nat.add_zero,Nat.mod_eq_of_lt h.first] at this
  exact this e
 simp only
 rw[h2,List.getElem?_set_ne h3,h1];rfl
def pushR(p:Nat)(q:List FrameM)(cap:Nat)(f:FrameM)(v:Value)(L:List HP):Prop:=v=.bool (decide (q.length<cap))∧L=[ringH p (if q.length<cap then q ++ [f] else q) cap]
theorem push_spec(p:Nat)(q:List FrameM)(cap:Nat)(f:FM)(hm:MIn Fr w f.2):Tri Tryz.prog 288 [.pointer (some ⟨p,0,none⟩),.agg (fmc f).toArray] Fr w [ringH p q cap] (pushR p q cap f.1):=by
 refine TF 39 Tryz.func288 rfl ym tabOk rfl rfl ?_
 refine CS (CG (VG (VB (vs:=fmc f) rfl fun b=>VG (VN ?_))))
 refine VC.opn 1 rfl (HOpn.ring p q cap) fun s h=>?_
 refine CN (L':=pt b (fmc f) 198::ringL p q cap s) (Imp.perm List.perm_append_comm).ent ?_
 have hq:=h.qlen
 have hc:=h.cap1
 have hf:=h.first
 refine xdf ?_
 refine CD (.take 0 (.only 1 (ts 2 12 .nil))) ym ym ?_
 refine AG (VA.callP (fun Fr w hF _ hs=>none_spec Fr w (hs.blk 1 rfl)) rfl rfl Pd.nil.st ?_)
 rintro _ rfl
 refine AG (AY 7 false rfl rfl ?_)
 refine xgc ?_
 refine CE rfl (fun h1=>?_) (fun h1=>?_)
 ·refine xdf ?_
  have h1:¬q.length<cap:=by omega
  exact CR (Ret.bool 4 rfl rfl rfl (Imp.trans Imp.tl (Imp.ring s h (Imp.of_eq (List.append_nil _).symm))).ent ⟨by simp[h1],by simp[h1]⟩)
 ·have h1:q.length<cap:=by omega
  have hlt:(s.first+q.length) % cap<cap:=Nat.mod_lt _ h.cap0
  refine CK ?_
  refine CS (CD (ts 0 9 (.take 10 (.only 9 (.only 11 (.take 12 (.only 13 .nil)))))) ym ym ?_)
  refine xgc ?_
  refine AG (VA.ldA 0 (fmc f) rfl rfl rfl rfl rfl ?_)
  refine AG (VA.callP (fun Fr w hF _ hs=>place_spec Fr w q.length (hs.blk 1 rfl) h.cap0 yd yd) rfl rfl yu ?_)
  rintro _ rfl
  refine AG (AO (OC (Lc:=[]) (R:=fun v L=>∃m,v=.agg (fmc (f.1,m)).toArray∧L=[mmH m]) rfl (.refl _) (fun Fr w hF hs _=>own_spec Fr w f (hm.of hF hs))) rfl ?_ ?_)
  ·rintro _ _ ⟨_,⟨m,rfl,rfl⟩,rfl⟩
   exact yu
  rintro _ _ ⟨_,⟨m,rfl,rfl⟩,rfl⟩
  refine AG (AI rfl (light_idx ((s.first+q.length) % cap) rfl rfl rfl rfl rfl rfl hlt) ?_)
  have hw:=flat_set fmc_len (f.1,m) [] (i:=(s.first+q.length) % cap) (l:=s.pl) (by rw[h.len];exact hlt)
  rw[List.append_nil,List.append_nil,←Nat.zero_add (_*29)] at hw
  refine AG (AT (vs:=fmc (f.1,m)) 3 rfl rfl rfl rfl rfl ?_ hw rfl rfl yu ?_)
  ·rw[flat_len fmc_len,h.len,fmc_len];show 0+(s.first+q.length) % cap*29+29≤cap*29;omega
  refine xgd ?_
  refine xdt ?_
  refine VG (VP rfl rfl ?_ ?_ ?_)
  ·omega
  ·omega
  refine xge ?_
  refine xdf ?_
  refine CR (Ret.bool 4 rfl rfl rfl (L':=[ringH p (q ++ [f.1]) cap]) ?_ ⟨by simp[h1],by simp[h1]⟩)
  have e:ringCs (q ++ [f.1]) cap { s with pl:=s.pl.set ((s.first+q.length) % cap) (f.1,m) }=[.slice (some ⟨s.pb,0,none⟩) cap cap,.int .i64 s.first,.int .i64 ((q.length:Int)+1)]:=by simp[ringCs]
  refine(Imp.ring _ (h.push h1 f.1 m) ?_).ent
  unfold ringL
  rw[e,List.append_nil]
  refine IP 2 rfl (IP 2 rfl ?_)
  exact Imp.trans (IP 0 rfl Imp.tl) (mm_put (x:=(f.1,m)) (by rw[h.len];exact hlt))
def popR(p:Nat)(cap:Nat):List FrameM→Value→List HP→Prop
 | [],v,L=>v=.tuple #[.agg (fmc fmz).toArray,.bool false]∧L=[ringH p [] cap]
 | f::q,v,L=>∃m,v=.tuple #[.agg (fmc (f,m)).toArray,.bool true]∧L=[mmH m,ringH p q cap]
theorem pop_spec(p:Nat)(q:List FrameM)(cap:Nat):Tri Tryz.prog 273 [.pointer (some ⟨p,0,none⟩)] Fr w [ringH p q cap] (popR p cap q):=by
 refine TF 39 Tryz.func273 rfl ym tabOk rfl rfl ?_
 refine CS (CG (VG (VO.alloc rfl fun b=>VG (VN ?_))))
 refine xdf ?_
 refine VG (VK (Lc:=[]) (R:=atR q 0) (fun Fr w hF hw hs=>front_spec Fr w (hs.at_ 1 rfl)) rfl rfl ?_)
 intro v L hv
 unfold atR at hv
 cases q with
 | nil=>
  simp only[List.getElem?_nil] at hv
  obtain⟨rfl,rfl⟩:=hv
  refine xga ?_
  refine xdf ?_
  refine xdz ?_
  refine CS (CG (VG (VI (LB (pv:=[]) (fmc fmz) rfl rfl rfl rfl rfl) (VG (VT (vs:=fmc fmz) (cs':=fmc fmz) 0 rfl rfl rfl rfl (NR _) rfl rfl rfl (VG (VN ?_)))))))
  exact CR (Ret.cellTmp 2 3 rfl rfl rfl (RdL.many 0 rfl rfl) rfl (Imp.app (L:=[_]) (M:=[]) (L':=[_]) (M':=[_]) Imp.nil Imp.refl).ent ⟨rfl,rfl⟩)
 | cons f q=>
  simp only[List.getElem?_cons_zero] at hv
  obtain⟨m,rfl,rfl⟩:=hv
  refine xfz ?_
  refine zon ?_
  refine VC.opn 2 rfl (HOpn.ring p (f::q) cap) fun s h=>?_
  refine CN (L':=mmH m::pt b (fmc (f,m)) 198::ringL p (f::q) cap s) (Imp.perm List.perm_append_comm).ent ?_
  have hq:=h.qlen
  have hc:=h.cap1
  have hf:=h.first
  have hc0:=h.cap0
  refine CS (CD (ts 0 14 (.only 14 .nil)) ym ym ?_)
  refine xgd ?_
  refine AG (AP rfl rfl rfl ?_ ?_ ?_)
  ·omega
  ·omega
  refine xgd ?_
  refine AG (AI rfl (light_slice s.first (s.first+1) rfl rfl rfl rfl rfl rfl rfl (by push_cast;rfl) yd yd yd) ?_)
  have hw:=flat_set fmc_len fmz [] (i:=s.first) (l:=s.pl) (by rw[h.len];exact hf)
  rw[List.append_nil,List.append_nil,←Nat.zero_add (_*29)] at hw
  refine AG (AO (OpT.clear 3 rfl rfl rfl rfl rfl yd ?_ rfl) rfl ?_ ?_)
  ·rw[flat_len fmc_len,h.len];show 0+s.first*29+(s.first+1-s.first)*29≤cap*29;omega
  ·rintro _ _ ⟨rfl,rfl⟩
   exact yu
  rintro _ _ ⟨rfl,rfl⟩
  have hz:(List.replicate (s.first+1-s.first) T.t198.zs).flatten=fmc fmz:=by rw[show s.first+1-s.first=1 from by omega];rfl
  have hw2:wrC (flat fmc s.pl) (0+s.first*T.t198.size) (List.replicate (s.first+1-s.first) T.t198.zs).flatten=flat fmc (s.pl.set s.first fmz):=by rw[hz];exact hw
  rw[hw2]
  refine xgd ?_
  refine xdt ?_
  refine VG (VV (fun Fr w hF _ hs=>place_spec Fr w 1 (hs.blk 2 rfl) hc0 yd yd) rfl ?_)
  refine VG (VO.st 2 rfl rfl rfl rfl yad rfl rfl (VG (VN ?_)))
  refine xdt ?_
  refine VG (VO.sub' rfl rfl ?_ ?_ ?_)
  ·omega
  ·omega
  refine xge ?_
  refine xdt ?_
  refine VG (VL 1 (fmc (f,m)) rfl rfl rfl rfl (VG (VT (vs:=fmc (f,m)) (cs':=fmc (f,m)) 1 rfl rfl rfl rfl (NR _) rfl rfl rfl (VG (VN ?_)))))
  refine CR (Ret.cellTmp 2 3 rfl rfl rfl (RdL.many 1 rfl rfl) rfl (L':=[mmH m,ringH p q cap]) ?_ ⟨m,rfl,rfl⟩)
  refine(IP 0 rfl (Imp.ring _ (h.pop fmz) ?_)).ent
  have e:ringCs q cap { s with first:=(s.first+1) % cap,pl:=s.pl.set s.first fmz }=[.slice (some ⟨s.pb,0,none⟩) cap cap,.int .i64 ((s.first+1) % cap:Nat),.int .i64 (((f::q).length:Int)-1)]:=by simp[ringCs]
  unfold ringL
  rw[e,List.append_nil]
  refine IP 1 rfl (IP 1 rfl ?_)
  exact Imp.trans (Imp.trans Imp.tl (Imp.mm0 Imp.refl)) (mm_put (x:=fmz) (by rw[h.len];exact hf))
theorem Tri.drop{P:Program}{f:FuncId}{args:List Value}{Fr:Nat→Prop}{w:World}{L:List HP}{R R':Value→List HP→Prop}(h:Tri P f args Fr w L R)(hi:∀v L',R v L'→∃L2,R' v L2∧Imp L' L2):Tri P f args Fr w L R':=
 ⟨h.callable,fun hl hs=>Calls.mono (h.calls hl hs) fun e w' ⟨v,L',h1,h2,h3,h4⟩=>by
  obtain⟨L2,h5,h6⟩:=hi v L' h2
  obtain⟨F,hs,hn,hb⟩:=h3
  obtain⟨F',hs',hn',hb'⟩:=h6 w' F hs hn
  exact⟨v,L2,h1,h5,⟨F',hs',hn',fun b hb2=>hb b (hb' b hb2)⟩,h4⟩⟩
theorem OpT.callAtM{X:Cx}{e:Env}{L:List HP}{f:FuncId}{args:Array Operand}{tys:Array TypeId}{vals:List Value}{H:HP}{R:Value→List HP→Prop}{ψ:Value→HP→HP→Prop}(i:Nat)
  (hL:L[i]?=some H) (ht:∀Fr' w,(∀b,X.Fr b→Fr' b)→St X L w→SatIn Fr' (L.eraseIdx i) w→Tri X.P f vals Fr' w [H] R) (hargs:evs e args.toList=some vals)
  (hR:∀v L1,R v L1→∃M H',L1=[M,H']∧ψ v M H'):
  OpT X (.call ⟨.value (.func f),args,tys⟩) e L (fun v L'=>∃M H',ψ v M H'∧L'=M::L.set i H'):=by
 intro a w ha hw dst ty pos after guard
 have hi:i<L.length:=(List.getElem?_eq_some_iff.1 hL).1
 have key:∀v w' L',(∃L1,R v L1∧L'=L1++L.eraseIdx i)→St X L' w'→∃L'',(∃M H',ψ v M H'∧L''=M::L.set i H')∧St X L'' w':=by
  rintro v w' _ ⟨L1,h1,rfl⟩ hs
  obtain⟨M,H',rfl,hψ⟩:=hR v L1 h1
  have hp:(H'::L.eraseIdx i).Perm (L.set i H'):=by
   have:=perm_eraseIdx (L:=L.set i H') (i:=i) (H:=H') (List.getElem?_set_self hi)
   rw[List.eraseIdx_set_eq] at this
   exact this.symm
  exact⟨_,⟨M,H',hψ,rfl⟩,(Imp.perm (hp.cons M)).ent w' hs⟩
 rcases OC (R:=R) hargs (Lc:=[H]) (Lr:=L.eraseIdx i) (perm_eraseIdx hL) ht a w ha hw dst ty pos after guard with ⟨v,w',L',h1,h2,h3⟩ | ⟨w',L',h1,h2,h3⟩ | ⟨f,args,h1,h2⟩
 ·obtain⟨L'',h4,h5⟩:=key _ _ _ h2 h3
  exact .inl ⟨v,w',L'',h1,h4,h5⟩
 ·obtain⟨L'',h4,h5⟩:=key _ _ _ h2 h3
  exact .inr (.inl ⟨w',L'',h1,h4,h5⟩)
 ·refine .inr (.inr ⟨f,args,h1,Calls.mono h2 fun en w' ⟨v,L',h3,h4,h5⟩=>?_⟩)
  obtain⟨L'',h6,h7⟩:=key _ _ _ h4 h5
  exact⟨v,L'',h3,h6,h7⟩
def atV(q:List FrameM)(i:Nat)(v:Value):Prop:=match q[i]? with
 | some f=>∃m,v=.tuple #[.agg (fmc (f,m)).toArray,.bool true]
 | none=>v=.tuple #[.agg (fmc fmz).toArray,.bool false]
theorem front_v{p:Nat}{q:List FrameM}{cap:Nat}(h:SatIn Fr [ringH p q cap] w):Tri Tryz.prog 270 [.pointer (some ⟨p,0,none⟩)] Fr w [] (fun v L=>atV q 0 v∧L=[]):=
 Tri.drop (front_spec Fr w h) fun v L h=>by
  unfold atR at h;unfold atV
  cases hq:q[0]? with
  | some f=>rw[hq] at h;obtain⟨m,rfl,rfl⟩:=h;exact⟨[],⟨⟨m,rfl⟩,rfl⟩,Imp.nil⟩
  | none=>rw[hq] at h;obtain⟨rfl,rfl⟩:=h;exact⟨[],⟨rfl,rfl⟩,Imp.nil⟩
def popW(p:Nat)(cap:Nat):List FrameM→Value→List HP→Prop
 | [],v,L=>v=.tuple #[.agg (fmc fmz).toArray,.bool false]∧L=[ringH p [] cap]
 | f::q,v,L=>(∃m,v=.tuple #[.agg (fmc (f,m)).toArray,.bool true])∧L=[ringH p q cap]
theorem pop_v(p:Nat)(q:List FrameM)(cap:Nat):Tri Tryz.prog 273 [.pointer (some ⟨p,0,none⟩)] Fr w [ringH p q cap] (popW p cap q):=
 Tri.drop (pop_spec Fr w p q cap) fun v L h=>by
  cases q with
  | nil=>exact⟨L,h,Imp.refl⟩
  | cons f q=>obtain⟨m,rfl,rfl⟩:=h;exact⟨_,⟨⟨m,rfl⟩,rfl⟩,Imp.tl⟩
theorem RingOk.new(cap:Nat)(h0:1≤cap)(h1:cap≤64)(b:Nat):RingOk [] cap ⟨b,List.replicate cap fmz,0⟩:=
 ⟨by simp,h0,h1,h0,by simp,fun i hi=>by simp at hi⟩
theorem new_spec(cap:Nat)(h0:1≤cap)(h1:cap≤64):Tri Tryz.prog 142 [.int .i64 cap] Fr w [] (fun v L=>∃p,v=.tuple #[.pointer (some ⟨p,0,none⟩),.int .i64 0]∧L=[ringH p [] cap]):=by
 refine TF 14 Tryz.func142 rfl ym tabOk rfl rfl ?_
 refine xdf ?_
 refine VG (VY 6 false rfl (DF yd) ?_)
 refine xdf ?_
 refine CP rfl (fun h=>absurd h yd) (fun _=>CK ?_)
 refine CS (CG (VG (VO.makeSlice cap rfl rfl rfl rfl rfl rfl rfl yd ?_ fun b=>?_)))
 ·show 288*cap≤_;omega
 refine VG (VI (LB [.slice (some ⟨b,0,none⟩) cap cap,.int .i64 0,.int .i64 0] rfl rfl rfl rfl rfl) (VG (VB (vs:=[.slice (some ⟨b,0,none⟩) cap cap,.int .i64 0,.int .i64 0]) rfl fun p=>VG (VN ?_))))
 refine CR (Ret.tmp2 2 3 rfl rfl rfl ?_ ⟨p,rfl,rfl⟩)
 exact(Imp.ring (M:=[]) ⟨b,List.replicate cap fmz,0⟩ (RingOk.new cap h0 h1 b) (by
  have:flat fmc (List.replicate cap fmz)=(List.replicate cap T.t198.zs).flatten:=(flat_replicate cap fmz).symm
  unfold ringL
  simp only[this,List.map_replicate,List.append_nil]
  refine IP 0 rfl (IP 0 rfl ?_)
  have:∀n:Nat,Imp [] (List.replicate n (mmH fmz.2)):=fun n=>by
   induction n with
   | zero=>exact Imp.nil
   | succ n ih=>exact Imp.mm0 ih
  exact this cap)).ent
end Ring
namespace Sched
open Go Vg T Api Ring
attribute [local irreducible] VO VC VA
structure ClsM where
 q:List FrameM
 quantum:Int
 credit:Int
 served:Int
structure SchM where
 cls:List ClsM
 cap:Nat
 turn:Nat
 fresh:Bool
def SchM.setC(S:SchM)(k:Nat)(c:ClsM):SchM:={ S with cls:=S.cls.set k c }
def SchM.idle(S:SchM):Bool:=S.cls.all fun c=>c.q.isEmpty
structure ClsM.Wf(c:ClsM):Prop where
 q0:96≤c.quantum
 q1:c.quantum≤65536
 c0:0≤c.credit
 c1:c.credit≤c.quantum+95
 s0:0≤c.served
 s1:c.served≤4611686018427387904
structure SchM.Wf(S:SchM):Prop where
 n0:1≤S.cls.length
 n1:S.cls.length≤4
 cap0:1≤S.cap
 cap1:S.cap≤16
 turn:S.turn<S.cls.length
 cls:∀c∈S.cls,c.Wf
 qs:∀c∈S.cls,c.q.length≤S.cap
 low:∀k c,S.cls[k]?=some c→(k=S.turn→S.fresh=true)→c.credit≤95
abbrev Row:=Nat×ClsM
def clsCs(r:Row):List Value:=[.pointer (some ⟨r.1,0,none⟩),.int .i64 r.2.quantum,.int .i64 r.2.credit,.int .i64 r.2.served]
theorem clsCs_len(r:Row):(clsCs r).length=4:=rfl
structure SchS where
 cb:Nat
 ccap:Nat
 rest:List Value
 rows:List Row
structure SchOk(S:SchM)(s:SchS):Prop where
 wf:S.Wf
 rows:s.rows.map Prod.snd=S.cls
 cap:s.rows.length≤s.ccap
def schCs(S:SchM)(s:SchS):List Value:=[.slice (some ⟨s.cb,0,none⟩) s.rows.length s.ccap,.int .i64 S.turn,.bool S.fresh]
def schL(p:Nat)(S:SchM)(s:SchS):List HP:=pt p (schCs S s) 234::pt s.cb (flat clsCs s.rows++s.rest) 239::s.rows.map fun r=>ringH r.1 r.2.q S.cap
def schH(p:Nat)(S:SchM):HP:=hex fun s=>hsep (hpure (SchOk S s)::schL p S s)
structure SchIn(Fr:Nat→Prop)(w:World)(p:Nat)(S:SchM)(s:SchS):Prop where
 ok:SchOk S s
 sch:Blk Fr w p (schCs S s)
 cls:Blk Fr w s.cb (flat clsCs s.rows++s.rest)
 ring:∀(k:Nat) (r:Row),s.rows[k]?=some r→SatIn Fr [ringH r.1 r.2.q S.cap] w
theorem SchIn.of{Fr:Nat→Prop}{w:World}{p:Nat}{S:SchM}(h:SatIn Fr [schH p S] w):∃s,SchIn Fr w p S s:=by
 obtain⟨s,h⟩:=h.ex
 have h:=h.sep
 exact⟨s,h.pure 0 rfl,h.blk 1 rfl,h.blk 2 rfl,fun k r hr=>h.at_ (k+3) yae⟩
theorem HOpn.sch(p:Nat)(S:SchM):HOpn (schH p S) (fun s=>SchOk S s) (fun s=>schL p S s):=by
 rintro w ids ⟨s,h⟩ hn
 obtain⟨F,G,rfl,⟨rfl,h1⟩,h2⟩:=h
 exact xfs
theorem Imp.sch{p:Nat}{S:SchM}{L M:List HP}(s:SchS)(hs:SchOk S s)(h:Imp L (schL p S s++M)):Imp L (schH p S::M):=
 Imp.ex s (Imp.sep (Imp.trans h (Imp.app (L:=schL p S s) (M:=_::schL p S s) (Imp.pure hs Imp.refl) Imp.refl)))
theorem SchOk.len{S:SchM}{s:SchS}(h:SchOk S s):s.rows.length=S.cls.length:=by rw[←h.rows,List.length_map]
theorem SchOk.row{S:SchM}{s:SchS}(h:SchOk S s){k:Nat}(hk:k<S.cls.length):∃p c,s.rows[k]?=some (p,c)∧S.cls[k]?=some c:=by
 have hk':k<s.rows.length:=by rw[h.len];exact hk
 refine⟨s.rows[k].1,s.rows[k].2,by simp[GE hk'],?_⟩
 rw[←h.rows,List.getElem?_map,GE hk'];rfl
theorem none_spec{p:Nat}{a:Option Addr}{n c:Nat}{cs:List Value}(h:Blk Fr w p (.slice a n c::cs)):Tri Tryz.prog 260 [.pointer (some ⟨p,0,none⟩)] Fr w [] (fun v L=>v=.bool (decide (n=0))∧L=[]):=by
 refine TF 13 Tryz.func260 rfl ym tabOk rfl rfl ?_
 refine xdf ?_
 refine VG (VO.split 5 rfl rfl (fun h=>by cases h) (fun _=>?_))
 refine xej ?_
 exact CR (Ret.bool 2 rfl rfl (by cases n<;>rfl) ER ⟨rfl,rfl⟩)
theorem has_spec{p n c:Nat}{a:Option Addr}{cs:List Value}(i:Int)(h:Blk Fr w p (.slice a n c::cs)):Tri Tryz.prog 207 [.pointer (some ⟨p,0,none⟩),.int .i64 i] Fr w [] (fun v L=>v=.bool (decide (0≤i∧i<n))∧L=[]):=by
 refine TF 21 Tryz.func207 rfl ym tabOk rfl rfl ?_
 refine xdf ?_
 refine VG (VV (fun Fr w hF hs _=>none_spec Fr w (h.of hF hs)) rfl (VG (VO.split 8 rfl rfl (fun h1=>?_) (fun h1=>?_))))
 ·have h1:n≠0:=by simpa using h1
  refine VG (VO.split 12 rfl rfl (fun h2=>?_) (fun h2=>?_))
  ·have h2:=of_decide_eq_true h2
   refine xej ?_
   exact CR (Ret.bool 4 rfl rfl yj ER ⟨rfl,rfl⟩)
  ·have h2:=of_decide_eq_false h2
   refine xdf ?_
   exact CR (Ret.bool 4 rfl rfl yj ER ⟨rfl,rfl⟩)
 ·have h1:n=0:=by simpa using h1
  refine VG (VY 12 false rfl rfl ?_)
  refine xdf ?_
  exact CR (Ret.bool 4 rfl rfl (by symm;apply DF;omega) ER ⟨rfl,rfl⟩)
def SchM.at_(S:SchM)(i:Int):Option ClsM:=if 0≤i then S.cls[i.toNat]? else none
theorem SchM.at_nat(S:SchM)(k:Nat):S.at_ k=S.cls[k]?:=by simp[SchM.at_]
theorem SchM.at_out{S:SchM}{i:Int}(h:¬(0≤i∧i<S.cls.length)):S.at_ i=none:=by
 unfold SchM.at_;split
 ·rw[List.getElem?_eq_none];omega
 ·rfl
theorem cls_cell{rows:List Row}{k j:Nat}{r:Row}{v:Value}(hr:rows[k]?=some r)(hj:(clsCs r)[j]?=some v)(rest:List Value):(flat clsCs rows++rest)[k*4+j]?=some v:=flat_cell clsCs_len hr hj rest
theorem pass_spec{p:Nat}{a:Addr}{n c t:Nat}{f:Bool}(hn:1≤n)(ht:t≤1000):
  Tri Tryz.prog 271 [.pointer (some ⟨p,0,none⟩)] Fr w [pt p [.slice (some a) n c,.int .i64 t,.bool f] 234]
   (fun v L=>v=.tuple #[]∧L=[pt p [.slice (some a) n c,.int .i64 ((t+1) % n:Nat),.bool true] 234]):=by
 refine TF 19 Tryz.func271 rfl ym tabOk rfl rfl ?_
 refine CS ?_
 refine CD (ts 0 14 (.only 14 .nil)) ym ym ?_
 refine xeh ?_
 refine AG (AP rfl rfl rfl ?_ ?_ ?_)
 ·omega
 ·omega
 refine xeh ?_
 refine AG (AI rfl (light_rem rfl rfl ?_ ?_) ?_)
 ·omega
 ·omega
 refine AG (VA.st 0 rfl rfl rfl rfl rfl yad rfl rfl yu ?_)
 refine zpr ?_
 refine VG (VO.st 0 rfl rfl rfl rfl yac rfl rfl (VG (VN ?_)))
 exact Ret.void rfl ER ⟨rfl,by push_cast;rfl⟩
theorem idle_spec{p:Nat}{S:SchM}(h:SatIn Fr [schH p S] w):Tri Tryz.prog 269 [.pointer (some ⟨p,0,none⟩)] Fr w [] (fun v L=>v=.bool S.idle∧L=[]):=by
 obtain⟨s,h⟩:=SchIn.of h
 have hb:=h.sch
 have hn:=h.ok.len
 have hn4:=h.ok.wf.n1
 refine TF 19 Tryz.func269 rfl ym tabOk rfl rfl ?_
 refine xdi ?_
 refine VC.loop (fun k:Nat=>[(8,.slice (some ⟨s.cb,0,none⟩) s.rows.length s.ccap),(9,.int .i64 s.rows.length),(10,.int .i64 k)]) (fun _=>[]) (fun k=>k≤S.cls.length∧∀j,j<k→∀c,S.cls[j]?=some c→c.q=[]) (fun k=>4-k) 0 ⟨Nat.zero_le _,fun j hj=>by omega⟩ sbZ ER ?_
 rintro k ⟨hk,hall⟩
 refine xdf ?_
 refine CP rfl (fun h1=>?_) (fun h1=>?_)
 ·have hk2:k<S.cls.length:=by omega
  obtain⟨q,c,hr,hc⟩:=h.ok.row hk2
  have hrow:((flat clsCs s.rows++s.rest).drop (0+k*4)).take 4=clsCs (q,c):=by rw[Nat.zero_add];exact flat_row clsCs_len hr _
  refine zqn ?_
  refine xgf ?_
  refine VG (VO.load rfl rfl (RdL.blkA h.cls hrow) (VG (VO.alloc rfl fun b=>VG (VT (vs:=clsCs (q,c)) (cs':=clsCs (q,c)) 0 rfl rfl rfl rfl (NR _) rfl rfl rfl (VG (VN ?_))))))
  refine xdf ?_
  refine VG (VV (fun Fr w hF hs _=>Ring.len_spec Fr w ((h.ring k _ hr).of hF hs)) rfl (VG (VN ?_)))
  refine CP rfl (fun h2=>?_) (fun h2=>?_)
  ·refine xdf ?_
   refine CR (Ret.bool 2 rfl rfl ?_ Imp.nil.ent ⟨rfl,rfl⟩)
   symm
   rw[SchM.idle,List.all_eq_false]
   refine⟨c,ME hc,?_⟩
   have:0<(c.q.length:Int):=h2
   cases hq:c.q with
   | nil=>rw[hq] at this;simp at this
   | cons _ _=>simp
  ·refine zqn ?_
   refine VG (VP rfl rfl ?_ ?_ ?_)
   ·omega
   ·omega
   refine xdf ?_
   refine⟨k+1,⟨by omega,fun j hj c' hc'=>?_⟩,by dsimp only;omega,sbZ,Imp.nil.ent⟩
   by_cases hjk:j=k
   ·subst hjk
    rw[hc] at hc';cases hc'
    have h2:¬0<(c.q.length:Int):=h2
    exact List.eq_nil_of_length_eq_zero yd
   ·exact hall j yd c' hc'
 ·have hk2:k=S.cls.length:=by omega
  subst hk2
  refine CX ?_
  refine xdf ?_
  refine CR (Ret.bool 2 rfl rfl ?_ Imp.nil.ent ⟨rfl,rfl⟩)
  symm
  rw[SchM.idle,List.all_eq_true]
  intro c hc
  obtain⟨j,hj⟩:=List.getElem?_of_mem hc
  rw[hall j (List.getElem?_eq_some_iff.1 hj).1 c hj];rfl
def SchM.pushM(S:SchM)(f:FrameM):Int×SchM:=
 match S.at_ f.cls with
 | none=>(2,S)
 | some c=>if opCheck f.op≠0 then (2,S) else if c.q.length<S.cap then (0,S.setC f.cls.toNat { c with q:=c.q ++ [f] }) else (60,S)
theorem set_map{α β:Type}{g:α→β}{l:List α}{k:Nat}{a:α}:(l.map g).set k (g a)=(l.set k a).map g:=by rw[List.map_set]
theorem SchOk.setC{S:SchM}{s:SchS}(h:SchOk S s){k q:Nat}{c c':ClsM}(hr:s.rows[k]?=some (q,c))(hw:(S.setC k c').Wf):SchOk (S.setC k c') { s with rows:=s.rows.set k (q,c') }:=
 ⟨hw,by simp[SchM.setC,←h.rows,List.map_set],by simpa using h.cap⟩
theorem SchM.Wf.set{S:SchM}(h:S.Wf){k:Nat}{c c':ClsM}(hc:S.cls[k]?=some c)(hw:c'.Wf)(hq:c'.q.length≤S.cap)(hl:(k=S.turn→S.fresh=true)→c'.credit≤95):(S.setC k c').Wf:=by
 have hk:=(List.getElem?_eq_some_iff.1 hc).1
 refine⟨by simpa[SchM.setC] using h.n0,by simpa[SchM.setC] using h.n1,h.cap0,h.cap1,by simpa[SchM.setC] using h.turn,fun x hx=>?_,fun x hx=>?_,fun j x hx hj=>?_⟩
 ·rcases List.mem_or_eq_of_mem_set hx with hx | rfl
  ·exact h.cls x hx
  ·exact hw
 ·rcases List.mem_or_eq_of_mem_set hx with hx | rfl
  ·exact h.qs x hx
  ·exact hq
 ·by_cases hjk:k=j
  ·subst hjk
   simp only[SchM.setC,List.getElem?_set_self hk,Option.some.injEq] at hx
   subst hx;exact hl hj
  ·simp only[SchM.setC,List.getElem?_set_ne hjk] at hx
   exact h.low j x hx hj
theorem flat_map_set{l:List Row}{k:Nat}{a b:Row}(h:clsCs a=clsCs b):flat clsCs (l.set k a)=flat clsCs (l.set k b):=by simp[flat,List.map_set,h]
theorem flat_same{l:List Row}{k:Nat}{a b:Row}(ha:l[k]?=some a)(h:clsCs a=clsCs b):flat clsCs l=flat clsCs (l.set k b):=by
 rw[←flat_map_set h]
 have hk:=(List.getElem?_eq_some_iff.1 ha)
 rw[show l.set k a=l from by rw[←hk.2];simp]
theorem sch_shut{p:Nat}{S:SchM}{s:SchS}(h:SchOk S s):Imp (schL p S s) [schH p S]:=Imp.sch (M:=[]) s h (Imp.of_eq (List.append_nil _).symm)
theorem schL_q{p k q:Nat}{S:SchM}{s:SchS}{c c':ClsM}(hr:s.rows[k]?=some (q,c))(hcs:clsCs (q,c)=clsCs (q,c')):
  pt p (schCs S s) 234::pt s.cb (flat clsCs s.rows++s.rest) 239::(s.rows.map fun r=>ringH r.1 r.2.q S.cap).set k (ringH q c'.q S.cap)=schL p (S.setC k c') { s with rows:=s.rows.set k (q,c') }:=by
 simp only[schL,schCs,List.length_set,←flat_same hr hcs,List.map_set];rfl
theorem push_spec(p:Nat)(S:SchM)(f:FM)(hm:MIn Fr w f.2):Tri Tryz.prog 301 [.pointer (some ⟨p,0,none⟩),.agg (fmc f).toArray] Fr w [schH p S] (fun v L=>v=.int .i64 (S.pushM f.1).1∧L=[schH p (S.pushM f.1).2]):=by
 refine TF 33 Tryz.func301 rfl ym tabOk rfl rfl ?_
 refine CS (CG (VG (VB (vs:=fmc f) rfl fun b=>VG (VN ?_))))
 refine VC.opn 1 rfl (HOpn.sch p S) fun s h=>?_
 refine CN (L':=pt b (fmc f) 198::schL p S s) (Imp.perm List.perm_append_comm).ent ?_
 have hn:=h.len
 have hn0:=h.wf.n0
 have hn4:=h.wf.n1
 have out:∀{X:Cx},Ent X (pt b (fmc f) 198::schL p S s) [schH p S]:=fun {X}=>(Imp.trans Imp.tl (sch_shut h)).ent
 refine xdf ?_
 refine VG (VV (fun Fr w hF _ hs=>none_spec Fr w (hs.blk 1 rfl)) rfl (VG (VN ?_)))
 refine CP rfl (fun h0=>by omega) (fun _=>?_)
 refine xds ?_
 refine VG (VV (fun Fr w hF _ hs=>has_spec Fr w f.1.cls (hs.blk 1 rfl)) rfl (VG (VO.split 14 rfl rfl (fun h1=>?_) (fun h1=>?_))))
 ·have h1:¬(0≤f.1.cls∧f.1.cls<s.rows.length):=fun hx=>by simp[hx] at h1
  refine zpc ?_
  have e:S.pushM f.1=(2,S):=by simp only[SchM.pushM,SchM.at_out (hn▸h1)]
  exact CR (Ret.int 4 rfl rfl rfl out ⟨by rw[e],by rw[e]⟩)
 ·have h1:0≤f.1.cls∧f.1.cls<s.rows.length:=by simpa using h1
  obtain⟨k,hfk⟩:=Int.eq_ofNat_of_zero_le h1.1
  have hk:k<S.cls.length:=by omega
  obtain⟨q,c,hr,hc⟩:=h.row hk
  have hat:S.at_ f.1.cls=some c:=by rw[hfk,SchM.at_nat,hc]
  refine xdf ?_
  refine VG (VL 0 f.1.op.cells rfl rfl rfl rfl ?_)
  refine VG (VO.callV (fun Fr w=>check_spec Fr w f.1.op) rfl (VG (VN ?_)))
  refine VC.condNE rfl (fun h2=>?_) (fun h2=>?_)
  ·refine xdf ?_
   have e:S.pushM f.1=(2,S):=by simp only[SchM.pushM,hat,if_pos h2]
   exact CR (Ret.int 4 rfl rfl rfl out ⟨by rw[e],by rw[e]⟩)
  ·have h2':¬opCheck f.1.op≠0:=fun hx=>hx h2
   have hcell:(flat clsCs s.rows++s.rest)[0+k*4]?=some (.pointer (some ⟨q,0,none⟩)):=by rw[Nat.zero_add];exact cls_cell (j:=0) hr rfl _
   refine CS (CD (ts 0 10 (.only 10 (ts 11 2 .nil))) ym ym ?_)
   refine xgc ?_
   refine AG (AI rfl (light_idx k rfl rfl rfl rfl rfl hfk yd) ?_)
   refine AG (VA.ld 2 rfl rfl rfl rfl hcell (AG (VA.ldA 0 (fmc f) rfl rfl rfl rfl rfl ?_)))
   refine AG (AQ (k+3) (H:=ringH q c.q S.cap) (R:=pushR q c.q S.cap f.1) (ψ:=fun v H=>v=.bool (decide (c.q.length<S.cap))∧H=ringH q (if c.q.length<S.cap then c.q ++ [f.1] else c.q) S.cap) yae (fun Fr w hF hs _=>Ring.push_spec Fr w q c.q S.cap f (hm.of hF hs)) rfl rfl (fun v L1 ⟨h3,h4⟩=>⟨_,h4,h3,rfl⟩) ?_ ?_)
   ·rintro _ _ ⟨rfl,rfl⟩
    exact(by(try refine Pd.st ?_);(repeat(first|exact Pd.nil|exact Pd.fnil|refine Pd.inner ?_|refine Pd.skip yr ?_|refine zf (zo 0 rfl rfl) ?_|refine zf (zo 1 rfl rfl) ?_|refine zf (zm 0 rfl rfl) ?_|refine zf (zm 1 rfl rfl) ?_|refine zf (RdL.blk (RdL.one 2 rfl hcell) rfl) ?_|refine zf ((RdL.one 2 rfl hcell)) ?_|refine zc (zo 0 rfl rfl) ?_|refine zc (zo 1 rfl rfl) ?_|refine zc (zm 0 rfl rfl) ?_|refine zc (zm 1 rfl rfl) ?_|refine zc (RdL.blk (RdL.one 2 rfl hcell) rfl) ?_|refine zc ((RdL.one 2 rfl hcell)) ?_)))
   rintro _ _ ⟨rfl,rfl⟩
   refine xeh ?_
   refine VC.condN rfl (fun h3=>?_) (fun h3=>?_)
   ·have h3:¬c.q.length<S.cap:=of_decide_eq_false h3
    refine xdf ?_
    have e:S.pushM f.1=(60,S):=by simp only[SchM.pushM,hat,if_neg h2',if_neg h3]
    refine CR (Ret.int 4 rfl rfl rfl ?_ ⟨by rw[e],by rw[e]⟩)
    rw[if_neg h3]
    have e2:S.setC k c=S:=by simp only[SchM.setC];rw[show S.cls.set k c=S.cls from by rw[←(List.getElem?_eq_some_iff.1 hc).2];simp]
    have e3:s.rows.set k (q,c)=s.rows:=by rw[←(List.getElem?_eq_some_iff.1 hr).2];simp
    have e4:=schL_q (p:=p) (S:=S) hr (c':=c) rfl
    rw[e2,e3] at e4
    exact(Imp.trans Imp.tl (Imp.trans (Imp.of_eq e4) (sch_shut h))).ent
   ·have h3:c.q.length<S.cap:=of_decide_eq_true h3
    refine zqn ?_
    have e:S.pushM f.1=(0,S.setC k { c with q:=c.q ++ [f.1] }):=by simp only[SchM.pushM,hat,if_neg h2',if_pos h3];rw[hfk,Int.toNat_natCast]
    refine CR (Ret.int 4 rfl rfl rfl ?_ ⟨by rw[e],by rw[e]⟩)
    rw[if_pos h3]
    have hw:(S.setC k { c with q:=c.q ++ [f.1] }).Wf:=h.wf.set hc ⟨(h.wf.cls c (ME hc)).q0,(h.wf.cls c (ME hc)).q1,(h.wf.cls c (ME hc)).c0,(h.wf.cls c (ME hc)).c1,(h.wf.cls c (ME hc)).s0,(h.wf.cls c (ME hc)).s1⟩ ye (h.wf.low k c hc)
    exact(Imp.trans Imp.tl (Imp.trans (Imp.of_eq (schL_q (p:=p) hr (c':={ c with q:=c.q ++ [f.1] }) rfl)) (sch_shut (h.setC hr hw)))).ent
def SchM.served2(a:Int):Int:=if 4611686018427387904<a then 4611686018427387904 else a
def ClsM.c0(c:ClsM):ClsM:={ c with credit:=0 }
def ClsM.c1(c:ClsM)(fr:Bool):ClsM:={ c with credit:=if fr then c.credit+c.quantum else c.credit }
def ClsM.c2(c:ClsM)(fr:Bool)(f:FrameM)(q:List FrameM):ClsM:=⟨q,c.quantum,if q=[] then 0 else (c.c1 fr).credit-opCost f.op,SchM.served2 (c.served+opCost f.op)⟩
def SchM.popF:Nat→SchM→Option (FrameM×SchM)
 | 0,_=>none
 | n+1,S=>match S.cls[S.turn]? with
  | none=>none
  | some c=>match c.q with
   | []=>popF n ⟨S.cls.set S.turn c.c0,S.cap,(S.turn+1) % S.cls.length,true⟩
   | f::q=>if (c.c1 S.fresh).credit<opCost f.op then popF n ⟨S.cls.set S.turn (c.c1 S.fresh),S.cap,(S.turn+1) % S.cls.length,true⟩
    else some (f,if q=[] then ⟨S.cls.set S.turn (c.c2 S.fresh f q),S.cap,(S.turn+1) % S.cls.length,true⟩ else ⟨S.cls.set S.turn (c.c2 S.fresh f q),S.cap,S.turn,false⟩)
theorem opCost_le(o:OpM):0≤opCost o∧opCost o≤96:=by
 unfold opCost
 split
 ·rename_i h
  have hl:opLong o=false:=by
   cases hl:opLong o with
   | false=>rfl
   | true=>unfold opCheck at h;rw[hl] at h;split at h<;>simp at h
  have hk:o.key.size≤16∧o.value.size≤64:=by simp[opLong] at hl;omega
  omega
 ·omega
theorem SchM.Wf.turned{S:SchM}(h:S.Wf){c':ClsM}(hw:c'.Wf)(hq:c'.q.length≤S.cap)(hl:c'.credit≤95):SchM.Wf ⟨S.cls.set S.turn c',S.cap,(S.turn+1) % S.cls.length,true⟩:=by
 have hn:=h.n0
 refine⟨by simpa using h.n0,by simpa using h.n1,h.cap0,h.cap1,by simpa using Nat.mod_lt _ hn,fun x hx=>?_,fun x hx=>?_,fun j x hx _=>?_⟩
 ·rcases List.mem_or_eq_of_mem_set hx with hx | rfl
  ·exact h.cls x hx
  ·exact hw
 ·rcases List.mem_or_eq_of_mem_set hx with hx | rfl
  ·exact h.qs x hx
  ·exact hq
 ·by_cases hjk:S.turn=j
  ·subst hjk
   simp only[List.getElem?_set_self h.turn,Option.some.injEq] at hx
   subst hx;exact hl
  ·simp only[List.getElem?_set_ne hjk] at hx
   exact h.low j x hx (fun e=>absurd e.symm hjk)
theorem SchM.Wf.stays{S:SchM}(h:S.Wf){c':ClsM}(hw:c'.Wf)(hq:c'.q.length≤S.cap):SchM.Wf ⟨S.cls.set S.turn c',S.cap,S.turn,false⟩:=by
 refine⟨by simpa using h.n0,by simpa using h.n1,h.cap0,h.cap1,by simpa using h.turn,fun x hx=>?_,fun x hx=>?_,fun j x hx hj=>?_⟩
 ·rcases List.mem_or_eq_of_mem_set hx with hx | rfl
  ·exact h.cls x hx
  ·exact hw
 ·rcases List.mem_or_eq_of_mem_set hx with hx | rfl
  ·exact h.qs x hx
  ·exact hq
 ·have hjk:S.turn≠j:=fun e=>by simpa using hj e.symm
  simp only[List.getElem?_set_ne hjk] at hx
  exact h.low j x hx (fun e=>absurd e.symm hjk)
theorem ClsM.Wf.empty{c:ClsM}(h:c.Wf):c.c0.Wf:=⟨h.q0,h.q1,Int.le_refl _,by have:=h.q0;show(0:Int)≤c.quantum+95;omega,h.s0,h.s1⟩
theorem SchM.Wf.c1{S:SchM}(h:S.Wf){c:ClsM}(hc:S.cls[S.turn]?=some c):(c.c1 S.fresh).Wf:=by
 have hw:=h.cls c (ME hc)
 have hl:=h.low S.turn c hc
 have h1:=hw.q0;have h2:=hw.c0;have h3:=hw.c1
 refine⟨hw.q0,hw.q1,?_,?_,hw.s0,hw.s1⟩
 ·show(0:Int)≤if S.fresh then c.credit+c.quantum else c.credit
  split<;>omega
 ·show(if S.fresh then c.credit+c.quantum else c.credit)≤c.quantum+95
  split
  ·rename_i hf
   have:=hl (fun _=>hf)
   omega
  ·omega
theorem SchM.Wf.c2{S:SchM}(h:S.Wf){c:ClsM}(hc:S.cls[S.turn]?=some c){f:FrameM}{q:List FrameM}(hq:c.q=f::q)(hcost:¬(c.c1 S.fresh).credit<opCost f.op):(c.c2 S.fresh f q).Wf∧(c.c2 S.fresh f q).q.length≤S.cap:=by
 have hw:=h.c1 hc
 have hb:=opCost_le f.op
 have hqs:=h.qs c (ME hc)
 have h3:=hw.c1;have h4:0≤c.served:=hw.s0;have h5:=hw.q0
 have h3':(c.c1 S.fresh).credit≤c.quantum+95:=h3
 have h5':96≤c.quantum:=h5
 refine⟨⟨hw.q0,hw.q1,?_,?_,?_,?_⟩,?_⟩
 ·show(0:Int)≤if q=[] then 0 else (c.c1 S.fresh).credit-opCost f.op
  split<;>omega
 ·show(if q=[] then 0 else (c.c1 S.fresh).credit-opCost f.op)≤c.quantum+95
  split<;>omega
 ·show(0:Int)≤SchM.served2 (c.served+opCost f.op)
  unfold SchM.served2;split<;>omega
 ·show SchM.served2 (c.served+opCost f.op)≤_
  unfold SchM.served2;split<;>omega
 ·rw[hq] at hqs;simp at hqs;show q.length≤S.cap;omega
theorem flat_stc{rows:List Row}{k j:Nat}{r r':Row}{v:Value}(hr:rows[k]?=some r)(hj:j<4)(hc:(clsCs r).set j v=clsCs r')(rest:List Value):(flat clsCs rows++rest).set (0+k*4+j) v=flat clsCs (rows.set k r')++rest:=by
 rw[Nat.zero_add];exact flat_setCell clsCs_len hr hj hc rest
theorem flat_stc2{rows:List Row}{k j:Nat}{r r':Row}{v:Value}(hk:k<rows.length)(hj:j<4)(hc:(clsCs r).set j v=clsCs r')(rest:List Value):(flat clsCs (rows.set k r)++rest).set (0+k*4+j) v=flat clsCs (rows.set k r')++rest:=by
 rw[flat_stc (List.getElem?_set_self hk) hj hc,List.set_set]
theorem rings_same{rows:List Row}{k q cap:Nat}{c:ClsM}(hr:rows[k]?=some (q,c)):(rows.map fun r=>ringH r.1 r.2.q cap)=(rows.map fun r=>ringH r.1 r.2.q cap).set k (ringH q c.q cap):=by
 rw[show ringH q c.q cap=(fun r:Row=>ringH r.1 r.2.q cap) (q,c) from rfl,set_map,show rows.set k (q,c)=rows from by rw[←(List.getElem?_eq_some_iff.1 hr).2];simp]
theorem schL_row{p k q t n:Nat}{S:SchM}{s:SchS}{c cA c':ClsM}{fr:Bool}{x:Int}(hr:s.rows[k]?=some (q,c))(hcs:clsCs (q,cA)=clsCs (q,c'))(hx:x=t)(hn:n=s.rows.length):
  pt p [.slice (some ⟨s.cb,0,none⟩) n s.ccap,.int .i64 x,.bool fr] 234::pt s.cb (flat clsCs (s.rows.set k (q,cA))++s.rest) 239::(s.rows.map fun r=>ringH r.1 r.2.q S.cap).set k (ringH q c'.q S.cap)=schL p ⟨S.cls.set k c',S.cap,t,fr⟩ { s with rows:=s.rows.set k (q,c') }:=by
 subst hx;subst hn
 simp only[schL,schCs,List.length_set,flat_map_set hcs,List.map_set]
theorem schL_row'{p k q t n:Nat}{S:SchM}{s:SchS}{c cA c':ClsM}{fr:Bool}{x:Int}(hr:s.rows[k]?=some (q,c))(hcs:clsCs (q,cA)=clsCs (q,c'))(hq:c'.q=c.q)(hx:x=t)(hn:n=s.rows.length):
  pt p [.slice (some ⟨s.cb,0,none⟩) n s.ccap,.int .i64 x,.bool fr] 234::pt s.cb (flat clsCs (s.rows.set k (q,cA))++s.rest) 239::(s.rows.map fun r=>ringH r.1 r.2.q S.cap)=schL p ⟨S.cls.set k c',S.cap,t,fr⟩ { s with rows:=s.rows.set k (q,c') }:=by
 rw[←schL_row hr hcs hx hn,hq,←rings_same hr]
theorem SchOk.row'{S:SchM}{s:SchS}(h:SchOk S s){k q:Nat}{c c':ClsM}{t:Nat}{fr:Bool}(hr:s.rows[k]?=some (q,c))(hw:SchM.Wf ⟨S.cls.set k c',S.cap,t,fr⟩):SchOk ⟨S.cls.set k c',S.cap,t,fr⟩ { s with rows:=s.rows.set k (q,c') }:=
 ⟨hw,by simp[←h.rows,List.map_set],by simpa using h.cap⟩
def passH(p cb n c t:Nat):HP:=pt p [.slice (some ⟨cb,0,none⟩) n c,.int .i64 ((t+1) % n:Nat),.bool true] 234
theorem pop_spec(p:Nat)(S0:SchM)(N:Nat)(f:FrameM)(S1:SchM)(hp:S0.popF N=some (f,S1))(hi:S0.idle=false):
  Tri Tryz.prog 229 [.pointer (some ⟨p,0,none⟩)] Fr w [schH p S0] (fun v L=>(∃m,v=.tuple #[.agg (fmc (f,m)).toArray,.bool true])∧L=[schH p S1]):=by
 refine TF 107 Tryz.func229 rfl ym tabOk rfl rfl ?_
 refine CS (CG (VG (VO.alloc rfl fun b=>VG (VN ?_))))
 refine VC.opn 1 rfl (HOpn.sch p S0) fun s0 h0=>?_
 refine CN (L':=pt b (fmc fmz) 198::schL p S0 s0) (Imp.perm List.perm_append_comm).ent ?_
 refine xdf ?_
 refine VG (VV (fun Fr w hF _ hs=>none_spec Fr w (hs.blk 1 rfl)) rfl ?_)
 refine VG (VY 10 false rfl (DF yaf) ?_)
 refine xdf ?_
 refine xgg ?_
 refine CC rfl (fun h=>by rw[hi] at h;cases h) (fun _=>CK ?_)
 refine CS (VC.label (CS (VC.block ?_)))
 refine VC.loop (σ:=Nat×SchM×SchS) (fun _=>[(0,pV p),(2,pV b)]) (fun x=>pt b (fmc fmz) 198::schL p x.2.1 x.2.2) (fun x=>SchOk x.2.1 x.2.2∧x.2.1.popF x.1=some (f,S1)) (fun x=>x.1) (N,S0,s0) ⟨h0,hp⟩ sbZ ER ?_
 clear hp
 rintro⟨N,S,s⟩ ⟨h,hp⟩
 dsimp only at h hp ⊢
 have hn:=h.len
 have hn0:=h.wf.n0
 have hn4:=h.wf.n1
 have ht:=h.wf.turn
 obtain⟨q,c,hr,hc⟩:=h.row ht
 have hcell:∀{j:Nat} {v:Value},(clsCs (q,c))[j]?=some v→(flat clsCs s.rows++s.rest)[0+S.turn*4+j]?=some v:=fun {j v} hj=>by rw[Nat.zero_add];exact cls_cell hr hj _
 cases N with
 | zero=>simp[SchM.popF] at hp
 | succ N=>
 simp only[SchM.popF,hc] at hp
 refine xdf ?_
 refine CD (ts 0 10 .nil) ym ym ?_
 refine xgc ?_
 refine AG (AI rfl (light_idx S.turn rfl rfl rfl rfl rfl rfl yd) ?_)
 refine zpr ?_
 refine xgh ?_
 refine VG (VO.callP (φ:=atV c.q 0) (fun Fr w hF _ hs=>front_v (cap:=S.cap) Fr w (hs.at_ (S.turn+3) yae)) rfl ?_)
 intro v hv
 unfold atV at hv
 cases hq:c.q with
 | nil=>
  simp only[hq] at hp
  simp only[hq,List.getElem?_nil] at hv
  subst hv
  refine VG (VO.alloc rfl fun b5=>VG (VT (vs:=fmc fmz) (cs':=fmc fmz) 0 rfl rfl rfl rfl (NR _) rfl rfl rfl (VG (VN ?_))))
  refine zpc ?_
  have hwf:=h.wf.turned (c':=c.c0) (h.wf.cls c (ME hc)).empty (h.wf.qs c (ME hc)) yag
  refine VG (VO.st 3 rfl rfl rfl rfl (by rw[List.length_append,flat_len clsCs_len];show 0+S.turn*4+2<_;omega) (flat_stc hr yd (r':=(q,c.c0)) rfl s.rest) rfl (VG (VN ?_)))
  refine xdf ?_
  refine xgi ?_
  rintro _ _ ⟨rfl,rfl⟩
  refine VG (VN (CX ⟨(N,_,_),⟨h.row' hr hwf,hp⟩,Nat.lt_succ_self N,sbZ,?_⟩))
  refine(Imp.trans Imp.tl (Imp.cons (Imp.of_eq ?_))).ent
  exact schL_row' (c':=c.c0) hr rfl rfl (by rw[hn]) rfl
 | cons g q'=>
  simp only[hq] at hp
  simp only[hq,List.getElem?_cons_zero] at hv
  obtain⟨m,rfl⟩:=hv
  have hlen:∀(l:List Row),l.length=s.rows.length→∀j,j<4→0+S.turn*4+j<(flat clsCs l++s.rest).length:=fun l hl j hj=>by rw[List.length_append,flat_len clsCs_len,hl];omega
  refine VG (VO.alloc rfl fun b5=>VG (VT (vs:=fmc (g,m)) (cs':=fmc (g,m)) 0 rfl rfl rfl rfl (NR _) rfl rfl rfl (VG (VN ?_))))
  refine zon ?_
  refine VC.meet (σ:=Unit) (fun _=>[(0,pV p),(2,pV b),(4,.pointer (some ⟨s.cb,0+S.turn*4,none⟩)),(5,pV b5)])
   (fun _=>pt b5 (fmc (g,m)) 198::pt b (fmc fmz) 198::pt p [.slice (some ⟨s.cb,0,none⟩) s.rows.length s.ccap,.int .i64 S.turn,.bool false] 234::pt s.cb (flat clsCs (s.rows.set S.turn (q,c.c1 S.fresh))++s.rest) 239::s.rows.map fun r=>ringH r.1 r.2.q S.cap) (fun _=>True) ?_ ?_
  ·refine CS (CG (VG (VO.ld 2 rfl rfl rfl rfl (VG (VN ?_)))))
   refine CC (t:=S.fresh) rfl (fun hf=>?_) (fun hf=>CK ⟨(),trivial,sbZ,Ent.of_eq ?_⟩)
   ·refine CS (CD (ts 0 11 (.only 11 .nil)) ym ym ?_)
    have hwc:=h.wf.cls c (ME hc)
    have:=hwc.q0;have:=hwc.q1;have:=hwc.c0;have:=hwc.c1
    refine AG (VA.ld 3 rfl rfl rfl rfl (hcell (j:=2) rfl) (AG (VA.ld 3 rfl rfl rfl rfl (hcell (j:=1) rfl) ?_)))
    refine AG (AP rfl rfl rfl ?_ ?_ ?_)
    ·dsimp only;omega
    ·dsimp only;omega
    refine AG (VA.st 3 rfl rfl rfl rfl rfl (hlen _ rfl 2 yd) (flat_stc hr yd (r':=(q,c.c1 S.fresh)) (by rw[hf];rfl) s.rest) rfl yu ?_)
    refine zpr ?_
    refine xge ?_
    exact⟨(),trivial,sbZ,ER⟩
   ·unfold schL schCs
    rw[hf,←flat_same hr (b:=(q,c.c1 false)) rfl]
    rfl
  intro _ _
  have hk:S.turn<s.rows.length:=by omega
  have hr1:(s.rows.set S.turn (q,c.c1 S.fresh))[S.turn]?=some (q,c.c1 S.fresh):=List.getElem?_set_self hk
  have hcell1:∀{j:Nat} {v:Value},(clsCs (q,c.c1 S.fresh))[j]?=some v→(flat clsCs (s.rows.set S.turn (q,c.c1 S.fresh))++s.rest)[0+S.turn*4+j]?=some v:=fun {j v} hj=>by rw[Nat.zero_add];exact cls_cell hr1 hj _
  have hcost:=opCost_le g.op
  have hw1:=h.wf.c1 hc
  have:=hw1.q0;have:=hw1.q1;have hc0:=hw1.c0;have hc1:=hw1.c1;have hs0:0≤c.served:=hw1.s0;have hs1:c.served≤4611686018427387904:=hw1.s1
  refine xdf ?_
  refine VG (VL 0 g.op.cells rfl rfl rfl rfl (VG (VO.callV (fun Fr w=>cost_spec Fr w g.op) rfl (VG (VN ?_)))))
  refine xdf ?_
  refine VG (VO.ld 3 rfl rfl rfl (hcell1 (j:=2) rfl) (VG (VN ?_)))
  refine CP rfl (fun hlt=>?_) (fun hlt=>CK ?_)
  ·have hlt:(c.c1 S.fresh).credit<opCost g.op:=hlt
   rw[if_pos hlt] at hp
   have hwf:=h.wf.turned (c':=c.c1 S.fresh) hw1 (h.wf.qs c (ME hc)) yd
   refine xdf ?_
   refine xgi ?_
   rintro _ _ ⟨rfl,rfl⟩
   refine VG (VN (CX ⟨(N,_,_),⟨h.row' hr hwf,hp⟩,Nat.lt_succ_self N,sbZ,?_⟩))
   refine(Imp.trans Imp.tl (Imp.cons (Imp.of_eq ?_))).ent
   exact schL_row' (c':=c.c1 S.fresh) hr rfl rfl (by rw[hn]) rfl
  ·have hlt:¬(c.c1 S.fresh).credit<opCost g.op:=hlt
   rw[if_neg hlt] at hp
   obtain⟨hwf2,hq2⟩:=h.wf.c2 hc hq hlt
   refine xdf ?_
   refine VG (VO.ld 3 rfl rfl rfl (hcell1 (j:=0) rfl) ?_)
   refine VG (VQ (S.turn+4) (H:=ringH q c.q S.cap) (ψ:=fun v H=>(∃m,v=.tuple #[.agg (fmc (g,m)).toArray,.bool true])∧H=ringH q q' S.cap) (by simp[hr]) (fun Fr w _ _ _=>Ring.pop_v Fr w q c.q S.cap) rfl (fun v L1 h1=>by rw[hq] at h1;exact⟨_,h1.2,h1.1,rfl⟩) ?_)
   rintro _ _ ⟨⟨m',rfl⟩,rfl⟩
   refine VG (VT (vs:=fmc (g,m')) (cs':=fmc (g,m')) 1 rfl rfl rfl rfl (NR _) rfl rfl rfl (VG (VN ?_)))
   refine xdf ?_
   refine VG (VO.ld 3 rfl rfl rfl (hcell1 (j:=2) rfl) ?_)
   refine VG (VO.sub' rfl rfl ?_ ?_ ?_)
   ·dsimp only;omega
   ·dsimp only;omega
   refine VG (VO.st 3 rfl rfl rfl rfl (hlen _ yf 2 yd) (flat_stc2 hk yd (r':=(q,{ c with credit:=(c.c1 S.fresh).credit-opCost g.op })) rfl s.rest) rfl (VG (VN ?_)))
   have hr2:∀c':ClsM,(s.rows.set S.turn (q,c'))[S.turn]?=some (q,c'):=fun c'=>List.getElem?_set_self hk
   have hcell2:∀{c':ClsM} {j:Nat} {v:Value},(clsCs (q,c'))[j]?=some v→(flat clsCs (s.rows.set S.turn (q,c'))++s.rest)[0+S.turn*4+j]?=some v:=fun {c' j v} hj=>by rw[Nat.zero_add];exact cls_cell (hr2 c') hj _
   refine xdf ?_
   refine VG (VO.ld 3 rfl rfl rfl (hcell2 (j:=3) rfl) ?_)
   refine VG (VP rfl rfl ?_ ?_ ?_)
   ·dsimp only;omega
   ·dsimp only;omega
   refine VG (VO.st 3 rfl rfl rfl rfl (hlen _ yf 3 yd) (flat_stc2 hk yd (r':=(q,{ c with credit:=(c.c1 S.fresh).credit-opCost g.op,served:=SchM.served2 (c.served+opCost g.op) })) rfl s.rest) rfl (VG (VN ?_)))
   refine xdf ?_
   refine VG (VO.ld 3 rfl rfl rfl (hcell2 (j:=0) rfl) ?_)
   refine VG (VV (fun Fr w hF _ hs=>Ring.len_spec (q:=q') (cap:=S.cap) Fr w (hs.at_ (S.turn+4) (by simp[hk]))) rfl (VG (VN ?_)))
   refine CE rfl (fun hz=>?_) (fun hz=>CK (CX ?_))
   ·have hz:q'=[]:=List.eq_nil_of_length_eq_zero yd
    rw[if_pos hz] at hp
    cases hp
    have hcr:(c.c2 S.fresh f q').credit=0:=by show(if q'=[] then 0 else (c.c1 S.fresh).credit-opCost f.op)=0;rw[if_pos hz]
    have hwf:=h.wf.turned hwf2 hq2 (by rw[hcr];omega)
    refine xdf ?_
    refine VG (VO.st 3 rfl rfl rfl rfl (hlen _ yf 2 yd) (flat_stc2 hk yd (r':=(q,{ c with credit:=0,served:=SchM.served2 (c.served+opCost f.op) })) rfl s.rest) rfl (VG (VN ?_)))
    refine xdf ?_
    refine xgi ?_
    rintro _ _ ⟨rfl,rfl⟩
    refine VG (VN (CX ?_))
    refine xdf ?_
    refine VG (VL 1 (fmc (f,m')) rfl rfl rfl rfl (VG (VT (vs:=fmc (f,m')) (cs':=fmc (f,m')) 1 rfl rfl rfl rfl (NR _) rfl rfl rfl (VG (VN ?_)))))
    refine CR (Ret.cellTmp 2 3 rfl rfl rfl (RdL.many 1 rfl rfl) rfl ?_ ⟨⟨m',rfl⟩,rfl⟩)
    have e:=schL_row (p:=p) (S:=S) (cA:={ c with credit:=0,served:=SchM.served2 (c.served+opCost f.op) }) (c':=c.c2 S.fresh f q') (fr:=true) hr yah (show(((S.turn+1) % s.rows.length:Nat):Int)=((S.turn+1) % S.cls.length:Nat) by rw[hn]) rfl
    exact xgj
   ·have hz:q'≠[]:=fun e=>hz (by simp[e])
    rw[if_neg hz] at hp
    cases hp
    have hcr:(c.c2 S.fresh f q').credit=(c.c1 S.fresh).credit-opCost f.op:=by show(if q'=[] then 0 else (c.c1 S.fresh).credit-opCost f.op)=_;rw[if_neg hz]
    have hwf:=h.wf.stays hwf2 hq2
    refine xdf ?_
    refine VG (VL 1 (fmc (f,m')) rfl rfl rfl rfl (VG (VT (vs:=fmc (f,m')) (cs':=fmc (f,m')) 1 rfl rfl rfl rfl (NR _) rfl rfl rfl (VG (VN ?_)))))
    refine CR (Ret.cellTmp 2 3 rfl rfl rfl (RdL.many 1 rfl rfl) rfl ?_ ⟨⟨m',rfl⟩,rfl⟩)
    have e:=schL_row (p:=p) (S:=S) (cA:={ c with credit:=(c.c1 S.fresh).credit-opCost f.op,served:=SchM.served2 (c.served+opCost f.op) }) (c':=c.c2 S.fresh f q') (fr:=false) hr yah (rfl:((S.turn:Nat):Int)=(S.turn:Nat)) rfl
    exact xgj
end Sched
namespace Sched
open Go Vg T Api Ring
attribute [local irreducible] VO VC VA
def frH(a:Option Addr)(c:Nat)(gs:List FM):HP:=slH 198 29 a gs.length c (flat fmc gs)
theorem frH_snoc(a:Option Addr)(c:Nat)(gs:List FM)(g:FM):slH 198 29 a (gs.length+1) c (flat fmc gs++fmc g)=frH a c (gs ++ [g]):=by
 simp[frH,flat_append,flat_cons,flat_nil]
theorem SchM.Wf.few{S:SchM}(h:S.Wf)(i:Nat):((S.cls.take i).flatMap ClsM.q).length≤64:=by
 have hq:=h.qs;have hn:=h.n1;have hc:=h.cap1
 have:∀(l:List ClsM),(∀c∈l,c.q.length≤16)→(l.flatMap ClsM.q).length≤l.length*16:=by
  intro l
  induction l with
  | nil=>intro _;simp
  | cons c l ih=>intro hl;rw[List.flatMap_cons,List.length_append,List.length_cons];have:=hl c yf;have:=ih (fun c hc=>hl c (by simp[hc]));omega
 have h2:=this (S.cls.take i) (fun c hc=>by have:=hq c (List.mem_of_mem_take hc);omega)
 have:(S.cls.take i).length≤4:=by rw[List.length_take];omega
 omega
def gone(now:Int)(f:FrameM):Bool:=decide (f.deadline<now)
def stay(now:Int)(f:FrameM):Bool:=!gone now f
def ClsM.expC(now:Int)(c:ClsM):ClsM:=⟨c.q.filter (stay now),c.quantum,if c.q.filter (stay now)=[] then 0 else c.credit,c.served⟩
def SchM.goneM(S:SchM)(now:Int):List FrameM:=S.cls.flatMap fun c=>c.q.filter (gone now)
def SchM.expM(S:SchM)(now:Int):SchM:={ S with cls:=S.cls.map (ClsM.expC now) }
theorem ClsM.Wf.exp{c:ClsM}(h:c.Wf)(now:Int):(c.expC now).Wf:=by
 have:=h.q0;have:=h.c0;have:=h.c1
 refine⟨h.q0,h.q1,?_,?_,h.s0,h.s1⟩
 ·show(0:Int)≤if _ then 0 else c.credit
  split<;>omega
 ·show(if _ then 0 else c.credit)≤c.quantum+95
  split<;>omega
abbrev ExpS:=Nat×SchM×SchS×Option Addr×Nat×List FM
structure ExpI(S0:SchM)(now:Int)(s0:SchS)(x:ExpS):Prop where
 le:x.1≤S0.cls.length
 ok:SchOk x.2.1 x.2.2.1
 cls:∀k,x.2.1.cls[k]?=(S0.cls[k]?).map (if k<x.1 then ClsM.expC now else id)
 cap:x.2.1.cap=S0.cap
 turn:x.2.1.turn=S0.turn
 fresh:x.2.1.fresh=S0.fresh
 cb:x.2.2.1.cb=s0.cb
 ccap:x.2.2.1.ccap=s0.ccap
 rows:x.2.2.1.rows.length=s0.rows.length
 room:x.2.2.2.2.2.length≤x.2.2.2.2.1
 gs:x.2.2.2.2.2.map Prod.fst=(S0.cls.take x.1).flatMap fun c=>c.q.filter (gone now)
structure ExpJ(cl:ClsM)(now:Int)(gs0:List FrameM)(x:Nat×List FrameM×Option Addr×Nat×List FM):Prop where
 le:x.1≤cl.q.length
 cur:x.2.1=cl.q.drop x.1++(cl.q.take x.1).filter (stay now)
 room:x.2.2.2.2.length≤x.2.2.2.1
 gs:x.2.2.2.2.map Prod.fst=gs0++(cl.q.take x.1).filter (gone now)
theorem SchM.Wf.fewG{S:SchM}(h:S.Wf)(i:Nat)(now:Int):((S.cls.take i).flatMap fun c=>c.q.filter (gone now)).length≤64:=by
 have hq:=h.qs;have hn:=h.n1;have hc:=h.cap1
 have:∀(l:List ClsM),(∀c∈l,c.q.length≤16)→(l.flatMap fun c=>c.q.filter (gone now)).length≤l.length*16:=by
  intro l
  induction l with
  | nil=>intro _;simp
  | cons c l ih=>intro hl;rw[List.flatMap_cons,List.length_append,List.length_cons];have:=hl c yf;have:=ih (fun c hc=>hl c (by simp[hc]));have:=List.length_filter_le (gone now) c.q;omega
 have h2:=this (S.cls.take i) (fun c hc=>by have:=hq c (List.mem_of_mem_take hc);omega)
 have:(S.cls.take i).length≤4:=by rw[List.length_take];omega
 omega
theorem expire_spec(p:Nat)(S0:SchM)(now:Int):
  Tri Tryz.prog 268 [.pointer (some ⟨p,0,none⟩),.int .i64 now] Fr w [schH p S0] (fun v L=>∃a c gs,gs.map Prod.fst=S0.goneM now∧v=.slice a gs.length c∧L=[schH p (S0.expM now),frH a c gs]):=by
 refine TF 67 Tryz.func268 rfl ym tabOk rfl rfl ?_
 refine VC.opn 0 rfl (HOpn.sch p S0) fun s0 h0=>?_
 refine CN (L':=schL p S0 s0) (Imp.of_eq (List.append_nil _)).ent ?_
 have hn:=h0.len
 have hn0:=h0.wf.n0
 have hn4:=h0.wf.n1
 refine xdf ?_
 refine VG (VV (fun Fr w hF _ hs=>none_spec Fr w (hs.blk 0 rfl)) rfl (VG (VN ?_)))
 refine CP rfl (fun h=>by omega) (fun _=>CK ?_)
 refine xdf ?_
 refine VC.loop (σ:=ExpS) (fun x=>[(0,pV p),(1,.int .i64 now),(5,.slice x.2.2.2.1 x.2.2.2.2.2.length x.2.2.2.2.1),(16,.int .i64 s0.rows.length),(17,.int .i64 x.1)]) (fun x=>frH x.2.2.2.1 x.2.2.2.2.1 x.2.2.2.2.2::schL p x.2.1 x.2.2.1) (ExpI S0 now s0) (fun x=>4-x.1) (0,S0,s0,none,0,[]) ⟨Nat.zero_le _,h0,fun k=>by simp,rfl,rfl,rfl,rfl,rfl,rfl,NR _,rfl⟩ sbZ (Imp.slNil Imp.refl).ent ?_
 rintro⟨i,S,s,a,c,gs⟩ ⟨hi,h,hcls,hcap,hturn,hfresh,hcb,hccap,hrows,hroom,hgs⟩
 dsimp only at hi h hcls hcap hturn hfresh hcb hccap hrows hroom hgs ⊢
 refine xdf ?_
 refine CP rfl (fun h1=>?_) (fun h1=>?_)
 ·have hk0:i<S0.cls.length:=by omega
  obtain⟨c0,hc0⟩:∃c0,S0.cls[i]?=some c0:=⟨_,GE hk0⟩
  have hc0':S.cls[i]?=some c0:=by rw[hcls i,hc0,if_neg (Nat.lt_irrefl i)];rfl
  have hk:i<S.cls.length:=(List.getElem?_eq_some_iff.1 hc0').1
  obtain⟨q,cl,hr,hc⟩:=h.row hk
  obtain rfl:cl=c0:=by rw[hc] at hc0';exact Option.some.inj hc0'
  have hql:=h.wf.qs cl (ME hc)
  have hcap16:=h.wf.cap1
  have hki:i<s.rows.length:=by omega
  have hcell:∀{j:Nat} {v:Value},(clsCs (q,cl))[j]?=some v→(flat clsCs s.rows++s.rest)[0+i*4+j]?=some v:=fun {j v} hj=>by rw[Nat.zero_add];exact cls_cell hr hj _
  refine CK ?_
  refine xds ?_
  refine VG (VI (light_idx i rfl rfl rfl rfl rfl rfl hki) ?_)
  refine xds ?_
  refine xgh ?_
  refine VG (VV (fun Fr w hF _ hs=>Ring.len_spec (q:=cl.q) (cap:=S.cap) Fr w (hs.at_ (i+3) yae)) rfl (VG (VN ?_)))
  refine xdf ?_
  refine VC.loop (σ:=Nat×List FrameM×Option Addr×Nat×List FM) (fun x=>[(0,pV p),(1,.int .i64 now),(5,.slice x.2.2.1 x.2.2.2.2.length x.2.2.2.1),(7,.pointer (some ⟨s.cb,0+i*4,none⟩)),(16,.int .i64 s0.rows.length),(17,.int .i64 i),(30,.int .i64 cl.q.length),(31,.int .i64 x.1)]) (fun x=>frH x.2.2.1 x.2.2.2.1 x.2.2.2.2::pt p (schCs S s) 234::pt s.cb (flat clsCs s.rows++s.rest) 239::(s.rows.map fun r=>ringH r.1 r.2.q S.cap).set i (ringH q x.2.1 S.cap)) (ExpJ cl now ((S0.cls.take i).flatMap fun c=>c.q.filter (gone now))) (fun x=>16-x.1) (0,cl.q,a,c,gs) ⟨Nat.zero_le _,by simp,hroom,by simpa using hgs⟩ sbZ (Ent.of_eq (by dsimp only;rw[←rings_same hr];rfl)) ?_
  rintro⟨j,cur,a,c,gs⟩ ⟨hj,hcur,hroom,hgs⟩
  dsimp only at hj hcur hroom hgs ⊢
  have hfew:=h0.wf.fewG i now
  have hgl:gs.length≤80:=by
   have:=congrArg List.length hgs
   have h3:=List.length_filter_le (gone now) (cl.q.take j)
   have h4:=List.length_take_le j cl.q
   rw[List.length_map,List.length_append] at this
   omega
  have hrl:(s.rows.map fun r=>ringH r.1 r.2.q S.cap).length=s.rows.length:=by simp
  refine xdf ?_
  refine CP rfl (fun h2=>?_) (fun h2=>?_)
  ·have hj2:j<cl.q.length:=by omega
   have hf:=GE hj2
   have hdrop:cl.q.drop j=cl.q[j]::cl.q.drop (j+1):=List.drop_eq_getElem_cons hj2
   generalize cl.q[j]=f at hf hdrop
   have htake:cl.q.take (j+1)=cl.q.take j ++ [f]:=by rw[List.take_add_one,hf];rfl
   have hcur2:cur=f::(cl.q.drop (j+1)++(cl.q.take j).filter (stay now)):=by rw[hcur,hdrop];rfl
   refine zqn ?_
   refine xgh ?_
   refine VG (VO.op rfl rfl rfl (OpT.callAtM (i+3) (H:=ringH q cur S.cap) (R:=Ring.popR q S.cap cur) (ψ:=fun v M H=>(∃m,v=.tuple #[.agg (fmc (f,m)).toArray,.bool true]∧M=mmH m)∧H=ringH q (cl.q.drop (j+1)++(cl.q.take j).filter (stay now)) S.cap) (by simp[hki]) (fun Fr w _ _ _=>Ring.pop_spec Fr w q cur S.cap) rfl (fun v L1 h1=>by rw[hcur2] at h1;obtain⟨m,h2,h3⟩:=h1;exact⟨_,_,h3,⟨m,h2,rfl⟩,rfl⟩)) ?_)
   rintro _ _ ⟨_,_,⟨⟨m,rfl,rfl⟩,rfl⟩,rfl⟩
   refine VG (VO.alloc rfl fun b8=>VG (VT (vs:=fmc (f,m)) (cs':=fmc (f,m)) 0 rfl rfl rfl rfl (NR _) rfl rfl rfl (VG (VN ?_))))
   refine xdf ?_
   refine CP rfl (fun h3=>?_) (fun h3=>?_)
   ·have h3:f.deadline<now:=h3
    have hg:gone now f=true:=by simp[gone,h3]
    have hs:stay now f=false:=by simp[stay,hg]
    refine xdf ?_
    refine VG (VL 0 (fmc (f,m)) rfl rfl rfl rfl ?_)
    refine VG (VO.buildSlice (n:=1) (pv:=[(0,.agg (fmc (f,m)).toArray)]) (fmc (f,m)) rfl rfl rfl rfl yo (fill_one rfl rfl rfl) fun nb=>?_)
    refine VG (VO.append (m:=1) (news:=fmc (f,m)) 3 rfl rfl rfl rfl rfl rfl rfl (RdRow.pt 0 rfl rfl rfl) rfl (by show(gs.length+1)*288≤_;omega) yd fun a' c' hc'=>VG (VN ?_))
    refine zor ?_
    have hL:(gs ++ [(f,m)]).length=gs.length+1:=by simp
    refine⟨(j+1,cl.q.drop (j+1)++(cl.q.take j).filter (stay now),a',c',gs ++ [(f,m)]),⟨hj2,by dsimp only;rw[htake,List.filter_append];simp[hs],by dsimp only;rw[hL];exact hc',?_⟩,by dsimp only;omega,SC rfl (SC rfl (SC (by rw[hL];rfl) sbZ)),?_⟩
    ·dsimp only;rw[List.map_append,hgs,htake,List.filter_append,List.append_assoc];simp[hg]
    ·dsimp only
     rw[←frH_snoc]
     refine(Imp.cons (Imp.trans Imp.tl (Imp.trans Imp.tl (Imp.trans Imp.tl (Imp.of_eq ?_))))).ent
     show _::_::((s.rows.map fun r=>ringH r.1 r.2.q S.cap).set i (ringH q cur S.cap)).set i _=_
     rw[List.set_set]
   ·have h3:¬f.deadline<now:=h3
    have hg:gone now f=false:=by simp[gone];omega
    have hs:stay now f=true:=by simp[stay,hg]
    have hlt:(cl.q.drop (j+1)++(cl.q.take j).filter (stay now)).length<S.cap:=by
     have h4:=List.length_filter_le (stay now) (cl.q.take j)
     have h5:=List.length_take_le j cl.q
     rw[List.length_append,List.length_drop]
     omega
    refine CD (ts 0 5 (.only 5 .nil)) ym ym ?_
    have hc3:(flat clsCs s.rows++s.rest)[0+i*4]?=some (.pointer (some ⟨q,0,none⟩)):=hcell (j:=0) rfl
    refine AG (VA.ld 4 rfl rfl rfl rfl hc3 (AG (VA.ldA 0 (fmc (f,m)) rfl rfl rfl rfl rfl ?_)))
    refine AG (AQ (i+5) (H:=ringH q (cl.q.drop (j+1)++(cl.q.take j).filter (stay now)) S.cap) (ψ:=fun v H=>H=ringH q (cl.q.drop (j+1)++(cl.q.take j).filter (stay now) ++ [f]) S.cap) (by simp[hki]) (fun Fr w _ _ hS=>Ring.push_spec Fr w q _ S.cap (f,m) (MIn.sat (hS.at_ 1 rfl))) rfl rfl (fun v L1 h1=>⟨_,h1.2,by rw[if_pos hlt]⟩) ?_ ?_)
    ·rintro _ _ rfl
     exact(by(try refine Pd.st ?_);(repeat(first|exact Pd.nil|exact Pd.fnil|refine Pd.inner ?_|refine Pd.skip yr ?_|refine zf (zo 0 rfl rfl) ?_|refine zf (zo 1 rfl rfl) ?_|refine zf (zm 0 rfl rfl) ?_|refine zf (zm 1 rfl rfl) ?_|refine zf (RdL.blk (RdL.one 4 rfl hc3) rfl) ?_|refine zf ((RdL.one 4 rfl hc3)) ?_|refine zc (zo 0 rfl rfl) ?_|refine zc (zo 1 rfl rfl) ?_|refine zc (zm 0 rfl rfl) ?_|refine zc (zm 1 rfl rfl) ?_|refine zc (RdL.blk (RdL.one 4 rfl hc3) rfl) ?_|refine zc ((RdL.one 4 rfl hc3)) ?_)))
    rintro _ _ rfl
    refine xeh ?_
    refine zor ?_
    refine⟨(j+1,cl.q.drop (j+1)++(cl.q.take j).filter (stay now) ++ [f],a,c,gs),⟨hj2,by dsimp only;rw[htake,List.filter_append,List.append_assoc];simp[hs],hroom,by dsimp only;rw[hgs,htake,List.filter_append];simp[hg]⟩,by dsimp only;omega,sbZ,?_⟩
    refine(Imp.trans Imp.tl (Imp.trans Imp.tl (Imp.cons (Imp.of_eq ?_)))).ent
    show _::_::(((s.rows.map fun r=>ringH r.1 r.2.q S.cap).set i (ringH q cur S.cap)).set i _).set i _=_
    rw[List.set_set,List.set_set]
  ·have hj2:j=cl.q.length:=by omega
   subst hj2
   rw[List.take_length] at hgs
   have hcur3:cur=cl.q.filter (stay now):=by rw[hcur];simp
   subst hcur3
   have hle2:=List.length_filter_le (stay now) cl.q
   have hwf':SchM.Wf ⟨S.cls.set i (cl.expC now),S.cap,S.turn,S.fresh⟩:=h.wf.set hc ((h.wf.cls cl (ME hc)).exp now) (by show(cl.q.filter (stay now)).length≤S.cap;omega) (fun hl=>by
    have:=h.wf.low i cl hc hl
    show(if cl.q.filter (stay now)=[] then 0 else cl.credit)≤95
    split<;>omega)
   have hnext:ExpI S0 now s0 (i+1,⟨S.cls.set i (cl.expC now),S.cap,S.turn,S.fresh⟩,{ s with rows:=s.rows.set i (q,cl.expC now) },a,c,gs):=by
    refine⟨hk0,h.row' hr hwf',fun k=>?_,hcap,hturn,hfresh,hcb,hccap,by simpa using hrows,hroom,?_⟩
    ·dsimp only
     by_cases hik:i=k
     ·subst hik
      rw[List.getElem?_set_self hk,hc0,if_pos (Nat.lt_succ_self i)];rfl
     ·rw[List.getElem?_set_ne hik,hcls k]
      congr 1
      by_cases h9:k<i
      ·rw[if_pos h9,if_pos yd]
      ·rw[if_neg h9,if_neg yd]
    ·dsimp only;rw[hgs,List.take_add_one,hc0,List.flatMap_append];simp
   refine CX ?_
   refine xdf ?_
   refine xgh ?_
   refine VG (VV (fun Fr w hF _ hs=>Ring.len_spec (q:=cl.q.filter (stay now)) (cap:=S.cap) Fr w (hs.at_ (i+3) (by simp[hki]))) rfl (VG (VN ?_)))
   refine CE rfl (fun hz=>?_) (fun hz=>CK ?_)
   ·have hz:cl.q.filter (stay now)=[]:=List.eq_nil_of_length_eq_zero yd
    have hcr:(cl.expC now).credit=0:=by show(if cl.q.filter (stay now)=[] then 0 else cl.credit)=0;rw[if_pos hz]
    refine xdf ?_
    refine VG (VO.st 2 rfl rfl rfl rfl (by rw[List.length_append,flat_len clsCs_len];show 0+i*4+2<_;omega) (flat_stc hr yd (r':=(q,cl.c0)) rfl s.rest) rfl (VG (VN ?_)))
    refine zor ?_
    refine⟨_,hnext,by dsimp only;omega,SC rfl (SC rfl (SC rfl (SC rfl (SC rfl (SN _))))),(Imp.cons (Imp.of_eq ?_)).ent⟩
    exact schL_row (cA:=cl.c0) (c':=cl.expC now) hr yah rfl rfl
   ·have hz:cl.q.filter (stay now)≠[]:=fun e=>hz yai
    have hcr:(cl.expC now).credit=cl.credit:=by show(if cl.q.filter (stay now)=[] then 0 else cl.credit)=_;rw[if_neg hz]
    refine zor ?_
    refine⟨_,hnext,by dsimp only;omega,SC rfl (SC rfl (SC rfl (SC rfl (SC rfl (SN _))))),(Imp.cons (Imp.of_eq ?_)).ent⟩
    rw[flat_same hr (b:=(q,cl)) rfl]
    exact schL_row (cA:=cl) (c':=cl.expC now) hr yah rfl rfl
 ·have hk:i=S0.cls.length:=by omega
  subst hk
  rw[List.take_length] at hgs
  refine CX ?_
  refine xdf ?_
  have e:S=S0.expM now:=by
   obtain⟨cls,cap,turn,fresh⟩:=S
   dsimp only at hcls hcap hturn hfresh
   subst hcap;subst hturn;subst hfresh
   show SchM.mk _ _ _ _=SchM.mk _ _ _ _
   congr 1
   apply List.ext_getElem?
   intro k
   rw[hcls k,List.getElem?_map]
   by_cases h9:k<S0.cls.length
   ·rw[if_pos h9]
   ·rw[List.getElem?_eq_none yd];rfl
  subst e
  refine CR (Ret.tmp 4 rfl rfl (Imp.trans (Imp.perm (List.perm_append_comm (l₁:=[_]))) (Imp.app (sch_shut h) Imp.refl)).ent ⟨a,c,gs,hgs,rfl,rfl⟩)
end Sched
namespace Sched
open Go Vg T Api Ring
attribute [local irreducible] VO VC VA
structure IntsIn(Fr:Nat→Prop)(w:World)(a:Option Addr)(qs:List Int):Prop where
 at_:qs≠[]→∃b off,a=some ⟨b,off,none⟩∧Fr b∧∀i v,qs[i]?=some v→w.cell? ⟨b,off+i,none⟩=some (.int .i64 v)
def quantumOk(q:Int):Bool:=decide (96≤q)&&decide (q≤65536)
def newOk(qs:List Int)(cap:Int):Bool:=decide (1≤qs.length)&&decide (qs.length≤4)&&decide (1≤cap)&&decide (cap≤16)&&qs.all quantumOk
def clsNew(q:Int):ClsM:=⟨[],q,0,0⟩
def SchM.new(qs:List Int)(cap:Int):SchM:=⟨qs.map clsNew,cap.toNat,0,true⟩
theorem SchM.new_wf{qs:List Int}{cap:Int}(h:newOk qs cap=true):(SchM.new qs cap).Wf:=by
 simp only[newOk,Bool.and_eq_true,decide_eq_true_eq,List.all_eq_true,quantumOk] at h
 obtain⟨⟨⟨⟨h1,h2⟩,h3⟩,h4⟩,h5⟩:=h
 refine⟨by simpa[SchM.new] using h1,by simpa[SchM.new] using h2,by simp[SchM.new];omega,by simp[SchM.new];omega,by simp[SchM.new];omega,fun c hc=>?_,fun c hc=>?_,fun k c hc _=>?_⟩
 ·obtain⟨q,hq,rfl⟩:=List.mem_map.1 hc
  have:=h5 q hq
  exact⟨this.1,this.2,Int.le_refl _,by show(0:Int)≤q+95;omega,Int.le_refl _,by show(0:Int)≤_;omega⟩
 ·obtain⟨q,hq,rfl⟩:=List.mem_map.1 hc
  simp[clsNew]
 ·obtain⟨q,hq,rfl⟩:=List.mem_map.1 (ME hc)
  show(0:Int)≤95;omega
abbrev NewS:=Nat×Option Addr×Nat×List Row
def newL(p:Nat)(cap:Nat)(x:NewS):List HP:=pt p [.slice x.2.1 x.1 x.2.2.1,.int .i64 0,.bool true] 234::slH 239 4 x.2.1 x.1 x.2.2.1 (flat clsCs x.2.2.2)::x.2.2.2.map fun r=>ringH r.1 r.2.q cap
def newR(qs:List Int)(cap:Int)(v:Value)(L:List HP):Prop:=if newOk qs cap=true then ∃p,v=.tuple #[.pointer (some ⟨p,0,none⟩),.int .i64 0]∧L=[schH p (SchM.new qs cap)] else v=.tuple #[.pointer none,.int .i64 2]∧L=[]
theorem newR.bad{X:Cx}{e:Env}{L:List HP}{qs:List Int}{cap:Int}(h:newOk qs cap=false)(h4:Vg.look e 4=some (.pointer none))(h5:Vg.look e 5=some (.int .i64 2)):Vg.Ret X Tryz.f99 (newR qs cap) e L:=
 Ret.tmp2 4 5 rfl h4 h5 Imp.nil.ent (by unfold newR;rw[if_neg (by rw[h];simp)];exact⟨rfl,rfl⟩)
structure NewI(qs:List Int)(x:NewS):Prop where
 le:x.1≤qs.length
 room:x.1≤x.2.2.1
 rows:x.2.2.2.map Prod.snd=(qs.take x.1).map clsNew
 ok:(qs.take x.1).all quantumOk=true
theorem NewI.len{qs:List Int}{x:NewS}(h:NewI qs x):x.2.2.2.length=x.1:=by
 have:=congrArg List.length h.rows
 have h2:=h.le
 simp only[List.length_map,List.length_take] at this
 omega
theorem new_spec(a:Option Addr)(qc:Nat)(qs:List Int)(cap:Int)(hq:IntsIn Fr w a qs):
  Tri Tryz.prog 99 [.slice a qs.length qc,.int .i64 cap] Fr w [] (newR qs cap):=by
 refine TF 62 Tryz.func99 rfl ym tabOk rfl rfl ?_
 refine xdf ?_
 refine VG (VO.split 13 rfl rfl (fun h1=>?_) (fun h1=>VG (VO.split 18 rfl rfl (fun h2=>?_) (fun h2=>VG (VO.split 22 rfl rfl (fun h3=>?_) (fun h3=>?_))))))
 ·have h1:=of_decide_eq_true h1
  refine VG (VY 18 true rfl rfl (VG (VY 22 true rfl rfl (VG (VN (VC.condT rfl ?_))))))
  refine xdf ?_
  refine CR (newR.bad ?_ rfl rfl)
  have:¬(1≤qs.length):=by omega
  simp[newOk,this]
 ·have h2:=of_decide_eq_true h2
  refine VG (VY 22 true rfl rfl (VG (VN (VC.condT rfl ?_))))
  refine xdf ?_
  refine CR (newR.bad ?_ rfl rfl)
  have:¬(qs.length≤4):=by omega
  simp[newOk,this]
 ·have h3:=of_decide_eq_true h3
  refine VG (VN (VC.condT rfl ?_))
  refine xdf ?_
  refine CR (newR.bad ?_ rfl rfl)
  have:¬(1≤cap):=by omega
  simp[newOk,this]
 have h1:=of_decide_eq_false h1
 have h2:=of_decide_eq_false h2
 have h3:=of_decide_eq_false h3
 refine xdf ?_
 refine CP rfl (fun h4=>?_) (fun h4=>CK ?_)
 ·refine xdf ?_
  refine CR (newR.bad ?_ rfl rfl)
  have:¬(cap≤16):=by omega
  simp[newOk,this]
 obtain⟨cp,rfl⟩:=Int.eq_ofNat_of_zero_le (show 0≤cap by omega)
 obtain⟨b,off,ha,hF,hcell⟩:=hq.at_ (fun e=>by rw[e] at h1;simp at h1)
 subst ha
 refine CS (CG (VG (VI (LB [.slice none 0 0,.int .i64 0,.bool true] rfl rfl rfl rfl rfl) (VG (VB (vs:=[.slice none 0 0,.int .i64 0,.bool true]) rfl fun p=>VG (VN ?_))))))
 refine xdf ?_
 refine VC.loop (σ:=NewS) (fun x=>[(0,.slice (some ⟨b,off,none⟩) qs.length qc),(1,.int .i64 cp),(4,pV p),(28,.slice (some ⟨b,off,none⟩) qs.length qc),(29,.int .i64 qs.length),(30,.int .i64 x.1)]) (newL p cp) (NewI qs) (fun x=>4-x.1) (0,none,0,[]) ⟨Nat.zero_le _,NR _,rfl,rfl⟩ sbZ ?_ ?_
 ·exact(Imp.cons (Imp.slNil Imp.refl)).ent
 rintro⟨i,a,c,rows⟩ hI
 have hle:=hI.le;have hroom:=hI.room;have hlen:=hI.len;have hrows:=hI.rows;have hok:=hI.ok
 dsimp only at hle hroom hlen hrows hok ⊢
 refine xdf ?_
 refine CP rfl (fun h5=>?_) (fun h5=>?_)
 ·have h5:i<qs.length:=by omega
  have hqi:=GE h5
  have hmem:qs[i]∈qs:=List.getElem_mem h5
  have htake:qs.take (i+1)=qs.take i ++ [qs[i]]:=by rw[List.take_add_one,hqi];rfl
  generalize hqv:qs[i]=q at hqi hmem htake
  have hbad:quantumOk q=false→newOk qs cp=false:=fun h=>by
   have:qs.all quantumOk=false:=List.all_eq_false.2 ⟨q,hmem,by simp[h]⟩
   simp[newOk,this]
  refine zqn ?_
  refine VG (VI (light_idx i rfl rfl rfl rfl rfl rfl h5) ?_)
  refine VG (VO.load rfl rfl (RdL.rd (v:=.int .i64 q) hF (by show w.cell? ⟨b,off+i*1,none⟩=_;rw[Nat.mul_one];exact hcell i _ hqi)) (VG (VN ?_)))
  refine CS (CS (CG (VG (VO.split 36 rfl rfl (fun h6=>?_) (fun h6=>?_)))))
  ·have h6:=of_decide_eq_true h6
   refine VG (VN (VC.condT rfl ?_))
   refine xdf ?_
   refine CR (newR.bad (hbad ?_) rfl rfl)
   have:¬96≤q:=by omega
   simp[quantumOk,this]
  have h6:=of_decide_eq_false h6
  refine VG (VN (CP rfl (fun h7=>?_) (fun h7=>CK ?_)))
  ·refine xdf ?_
   refine CR (newR.bad (hbad ?_) rfl rfl)
   have:¬q≤65536:=by omega
   simp[quantumOk,this]
  refine xdf ?_
  refine VG (VO.call0 rfl (fun Fr w=>Ring.new_spec Fr w cp yd yd) ?_)
  rintro _ _ ⟨r,rfl,rfl⟩
  refine xdf ?_
  refine VC.condNE rfl (fun h=>absurd rfl h) (fun _=>CK ?_)
  refine CG ?_
  refine xgk ?_
  refine VG (VI (LB (pv:=[(0,pV r),(1,.int .i64 q)]) (clsCs (r,clsNew q)) rfl rfl rfl rfl rfl) ?_)
  refine VG (VO.buildSlice (n:=1) (pv:=[(0,.agg (clsCs (r,clsNew q)).toArray)]) (clsCs (r,clsNew q)) rfl rfl rfl rfl yo (fill_one rfl rfl rfl) fun nb=>?_)
  refine VG (VO.append (m:=1) (news:=clsCs (r,clsNew q)) 3 rfl rfl rfl rfl rfl rfl rfl (RdRow.pt 0 rfl rfl rfl) rfl (by show(i+1)*32≤_;omega) yd fun a' c' hc'=>?_)
  refine VG (VO.st 3 rfl rfl rfl rfl (by show 0<3;omega) rfl rfl (VG (VN ?_)))
  refine xdf ?_
  refine VG (VP rfl rfl ?_ ?_ ?_)
  ·omega
  ·omega
  refine xdf ?_
  refine⟨(i+1,a',c',rows ++ [(r,clsNew q)]),⟨h5,hc',?_,?_⟩,by dsimp only;omega,sbZ,?_⟩
  ·dsimp only;rw[List.map_append,hrows,htake,List.map_append];rfl
  ·dsimp only;rw[htake,List.all_append,hok];simp[quantumOk];omega
  ·have e1:Imp (ringH r [] cp::rows.map fun r:Row=>ringH r.1 r.2.q cp) ((rows ++ [(r,clsNew q)]).map fun r:Row=>ringH r.1 r.2.q cp):=by
    rw[List.map_append]
    exact Imp.perm (List.perm_append_comm (l₁:=[ringH r [] cp]))
   have e2:flat clsCs rows++clsCs (r,clsNew q)=flat clsCs (rows ++ [(r,clsNew q)]):=by simp[flat_append,flat_cons,flat_nil]
   rw[e2]
   refine(IP 3 rfl ?_).ent
   exact IP 0 rfl (Imp.trans Imp.tl e1)
 ·have h5:i=qs.length:=by omega
  subst h5
  have hnew:newOk qs cp=true:=by
   rw[List.take_length] at hok
   simp only[newOk,hok,Bool.and_true,Bool.and_eq_true,decide_eq_true_eq]
   omega
  refine CX ?_
  refine xdf ?_
  refine VC.opn 1 rfl (HOpn.sl _ _ _ _ _ _) fun x hx=>?_
  obtain⟨hx1,hx2,hx3⟩:=hx
  cases x with
  | none=>exact absurd hx3.2.1 yd
  | some y=>
   obtain⟨cb,rest⟩:=y
   obtain⟨rfl,hx3⟩:=hx3
   refine CR (Ret.tmp2 4 5 rfl rfl rfl (L':=[schH p (SchM.new qs cp)]) ?_ (by unfold newR;rw[if_pos hnew];exact⟨p,rfl,rfl⟩))
   rw[List.take_length] at hrows
   refine(Imp.sch (M:=[]) ⟨cb,c,rest,rows⟩ ⟨SchM.new_wf hnew,hrows,by dsimp only;omega⟩ ?_).ent
   have e:schCs (SchM.new qs cp) ⟨cb,c,rest,rows⟩=[.slice (some ⟨cb,0,none⟩) qs.length c,.int .i64 0,.bool true]:=by simp[schCs,SchM.new,hlen]
   unfold schL
   rw[e]
   refine IP 1 rfl ?_
   exact Imp.of_eq (by simp[newL,SchM.new])
end Sched
namespace Sched
open Go Vg T Api Ring
attribute [local irreducible] VO VC VA
def SchM.qs(S:SchM):List (List FrameM):=S.cls.map ClsM.q
theorem SchM.qs_at{S:SchM}{k:Nat}{c:ClsM}(h:S.cls[k]?=some c):S.qs[k]?=some c.q:=by simp[SchM.qs,h]
theorem list_set_same{α:Type}{l:List α}{k:Nat}{a:α}(h:l[k]?=some a):l.set k a=l:=by rw[←(List.getElem?_eq_some_iff.1 h).2];simp
theorem qs_same{S:SchM}{k:Nat}{c:ClsM}(hc:S.cls[k]?=some c){c':ClsM}(h:c'.q=c.q):(S.cls.set k c').map ClsM.q=S.qs:=by
 rw[List.map_set,h];exact list_set_same (by simp[hc])
theorem popF_succ{S:SchM}{c:ClsM}(hc:S.cls[S.turn]?=some c)(N:Nat):S.popF (N+1)=match c.q with
   | []=>SchM.popF N ⟨S.cls.set S.turn c.c0,S.cap,(S.turn+1) % S.cls.length,true⟩
   | f::q=>if (c.c1 S.fresh).credit<opCost f.op then SchM.popF N ⟨S.cls.set S.turn (c.c1 S.fresh),S.cap,(S.turn+1) % S.cls.length,true⟩
    else some (f,if q=[] then ⟨S.cls.set S.turn (c.c2 S.fresh f q),S.cap,(S.turn+1) % S.cls.length,true⟩ else ⟨S.cls.set S.turn (c.c2 S.fresh f q),S.cap,S.turn,false⟩):=by
 simp only[SchM.popF,hc]
 all_goals (cases c.q<;>rfl)
theorem popF_qs:∀{N:Nat} {S S1:SchM} {f:FrameM},S.Wf→S.popF N=some (f,S1)→∃k q,S.qs[k]?=some (f::q)∧S1.qs=S.qs.set k q∧S1.cap=S.cap∧S1.Wf
 | 0,S,S1,f,_,h=>by simp[SchM.popF] at h
 | N+1,S,S1,f,hw,h=>by
  obtain⟨c,hc⟩:∃c,S.cls[S.turn]?=some c:=⟨_,GE hw.turn⟩
  have hcw:=hw.cls c (ME hc)
  have hql:=hw.qs c (ME hc)
  have same:∀c':ClsM,c'.q=c.q→(S.cls.set S.turn c').map ClsM.q=S.qs:=fun c' h'=>qs_same hc h'
  rw[popF_succ hc] at h
  cases hq:c.q with
  | nil=>
   simp only[hq] at h
   have hw':=hw.turned (c':=c.c0) hcw.empty hql yag
   obtain⟨k,q,h1,h2,h3,h4⟩:=popF_qs hw' h
   have e:SchM.qs ⟨S.cls.set S.turn c.c0,S.cap,(S.turn+1) % S.cls.length,true⟩=S.qs:=same c.c0 rfl
   rw[e] at h1 h2
   exact⟨k,q,h1,h2,h3,h4⟩
  | cons g q'=>
   simp only[hq] at h
   have hcost:=opCost_le g.op
   have hw1:=hw.c1 hc
   by_cases hlt:(c.c1 S.fresh).credit<opCost g.op
   ·rw[if_pos hlt] at h
    have hw':=hw.turned (c':=c.c1 S.fresh) hw1 hql yd
    obtain⟨k,q,h1,h2,h3,h4⟩:=popF_qs hw' h
    have e:SchM.qs ⟨S.cls.set S.turn (c.c1 S.fresh),S.cap,(S.turn+1) % S.cls.length,true⟩=S.qs:=same (c.c1 S.fresh) rfl
    rw[e] at h1 h2
    exact⟨k,q,h1,h2,h3,h4⟩
   ·rw[if_neg hlt] at h
    obtain⟨hw2,hq2⟩:=hw.c2 hc hq hlt
    simp only[Option.some.injEq,Prod.mk.injEq] at h
    obtain⟨rfl,h⟩:=h
    refine⟨S.turn,q',by rw[SchM.qs_at hc,hq],?_⟩
    by_cases hz:q'=[]
    ·rw[if_pos hz] at h
     subst h
     have hcr:(c.c2 S.fresh g q').credit=0:=by show(if q'=[] then 0 else (c.c1 S.fresh).credit-opCost g.op)=0;rw[if_pos hz]
     exact⟨by simp only[SchM.qs,List.map_set];rfl,rfl,hw.turned hw2 hq2 (by rw[hcr];omega)⟩
    ·rw[if_neg hz] at h
     subst h
     exact⟨by simp only[SchM.qs,List.map_set];rfl,rfl,hw.stays hw2 hq2⟩
theorem popF_more:∀{N:Nat} {S:SchM} {r:FrameM×SchM} (M:Nat),S.popF N=some r→S.popF (N+M)=some r
 | 0,S,r,M,h=>by simp[SchM.popF] at h
 | N+1,S,r,M,h=>by
  rw[show N+1+M=(N+M)+1 from by omega]
  simp only[SchM.popF] at h ⊢
  cases hc:S.cls[S.turn]? with
  | none=>simp[hc] at h
  | some c=>
   simp only[hc] at h ⊢
   cases hq:c.q with
   | nil=>simp only[hq] at h ⊢;exact popF_more M h
   | cons g q'=>
    simp only[hq] at h ⊢
    by_cases hlt:(c.c1 S.fresh).credit<opCost g.op
    ·rw[if_pos hlt] at h ⊢;exact popF_more M h
    ·rw[if_neg hlt] at h ⊢;exact h
theorem popF_fresh:∀(d:Nat) {S:SchM},S.Wf→S.fresh=true→(∃x,S.qs[(S.turn+d) % S.cls.length]?=some x∧x≠[])→∃r,S.popF (d+1)=some r
 | d,S,hw,hf,⟨x,hx,hne⟩=>by
  obtain⟨c,hc⟩:∃c,S.cls[S.turn]?=some c:=⟨_,GE hw.turn⟩
  have hcw:=hw.cls c (ME hc)
  have hql:=hw.qs c (ME hc)
  rw[popF_succ hc]
  cases hq:c.q with
  | cons g q'=>
   have hcost:=opCost_le g.op
   have h1:=hcw.q0;have h2:=hcw.c0
   have hlt:¬(c.c1 S.fresh).credit<opCost g.op:=by
    show ¬(if S.fresh then c.credit+c.quantum else c.credit)<_
    rw[hf,if_pos rfl];omega
   simp only[if_neg hlt]
   exact⟨_,rfl⟩
  | nil=>
   cases d with
   | zero=>
    rw[Nat.add_zero,Nat.mod_eq_of_lt hw.turn,SchM.qs_at hc] at hx
    rw[←Option.some.inj hx] at hne
    exact absurd hq hne
   | succ d=>
    have hw':=hw.turned (c':=c.c0) hcw.empty hql yag
    refine popF_fresh d hw' rfl ⟨x,?_,hne⟩
    have e:SchM.qs ⟨S.cls.set S.turn c.c0,S.cap,(S.turn+1) % S.cls.length,true⟩=S.qs:=qs_same hc rfl
    rw[e,←hx]
    congr 1
    simp only[List.length_set]
    rw[Nat.mod_add_mod]
    congr 1;omega
theorem popF_some{S:SchM}(hw:S.Wf)(hi:S.idle=false):∃f S1,S.popF 9=some (f,S1):=by
 have hn4:=hw.n1
 have key:∀{T:SchM},T.Wf→T.fresh=true→T.qs=S.qs→∃r,T.popF 4=some r:=by
  intro T hT hf hqs
  obtain⟨c,hc,hne⟩:=List.all_eq_false.1 hi
  obtain⟨j,hj⟩:=List.getElem?_of_mem hc
  have hTn:T.cls.length=S.cls.length:=by have:=congrArg List.length hqs;simpa[SchM.qs] using this
  have hjn:=(List.getElem?_eq_some_iff.1 hj).1
  have ht:=hT.turn
  have hx:T.qs[j]?=some c.q:=by rw[hqs,SchM.qs_at hj]
  have hne':c.q≠[]:=fun e=>hne yai
  let d:=(j+T.cls.length-T.turn) % T.cls.length
  have hd:d<T.cls.length:=Nat.mod_lt _ hT.n0
  have hdj:(T.turn+d) % T.cls.length=j:=by
   show(T.turn+(j+T.cls.length-T.turn) % T.cls.length) % T.cls.length=j
   rw[Nat.add_mod_mod,show T.turn+(j+T.cls.length-T.turn)=j+T.cls.length from by omega,Nat.add_mod_right]
   exact Nat.mod_eq_of_lt yd
  obtain⟨r,hr⟩:=popF_fresh d hT hf ⟨c.q,by rw[hdj];exact hx,hne'⟩
  refine⟨r,?_⟩
  have:=popF_more (3-d) hr
  rwa[show d+1+(3-d)=4 from by omega] at this
 have up:∀{T:SchM} {r:FrameM×SchM},T.popF 4=some r→T.popF 9=some r:=fun h=>popF_more 5 h
 cases hf:S.fresh with
 | true=>
  obtain⟨r,hr⟩:=key hw hf rfl
  exact⟨r.1,r.2,up hr⟩
 | false=>
  obtain⟨c,hc⟩:∃c,S.cls[S.turn]?=some c:=⟨_,GE hw.turn⟩
  have hcw:=hw.cls c (ME hc)
  have hql:=hw.qs c (ME hc)
  have same:∀c':ClsM,c'.q=c.q→(S.cls.set S.turn c').map ClsM.q=S.qs:=fun c' h'=>qs_same hc h'
  rw[popF_succ (N:=8) hc]
  cases hq:c.q with
  | nil=>
   have hw':=hw.turned (c':=c.c0) hcw.empty hql yag
   obtain⟨r,hr⟩:=key hw' rfl (same c.c0 rfl)
   exact⟨r.1,r.2,popF_more 4 hr⟩
  | cons g q'=>
   have hcost:=opCost_le g.op
   by_cases hlt:(c.c1 S.fresh).credit<opCost g.op
   ·have hw':=hw.turned (c':=c.c1 S.fresh) (hw.c1 hc) hql yd
    obtain⟨r,hr⟩:=key hw' rfl (same (c.c1 S.fresh) rfl)
    simp only[if_pos hlt]
    exact⟨r.1,r.2,popF_more 4 hr⟩
   ·simp only[if_neg hlt]
    exact⟨_,_,rfl⟩
def SchM.popM(S:SchM):Option (FrameM×SchM):=if S.idle then none else S.popF 9
def popR(p:Nat)(S:SchM)(v:Value)(L:List HP):Prop:=match S.popM with
 | none=>v=.tuple #[.agg (fmc fmz).toArray,.bool false]∧L=[schH p S]
 | some r=>(∃m,v=.tuple #[.agg (fmc (r.1,m)).toArray,.bool true])∧L=[schH p r.2]
theorem pop_idle(p:Nat)(S:SchM)(hi:S.idle=true):
  Tri Tryz.prog 229 [.pointer (some ⟨p,0,none⟩)] Fr w [schH p S] (fun v L=>v=.tuple #[.agg (fmc fmz).toArray,.bool false]∧L=[schH p S]):=by
 refine TF 107 Tryz.func229 rfl ym tabOk rfl rfl ?_
 refine CS (CG (VG (VO.alloc rfl fun b=>VG (VN ?_))))
 refine VC.opn 1 rfl (HOpn.sch p S) fun s0 h0=>?_
 refine CN (L':=pt b (fmc fmz) 198::schL p S s0) (Imp.perm List.perm_append_comm).ent ?_
 refine xdf ?_
 refine VG (VV (fun Fr w hF _ hs=>none_spec Fr w (hs.blk 1 rfl)) rfl ?_)
 refine VG (VY 10 false rfl (DF yaf) ?_)
 refine xdf ?_
 refine xgg ?_
 refine CC rfl (fun _=>?_) (fun h=>by rw[hi] at h;cases h)
 refine CS (CG (VG (VI (LB (pv:=[]) (fmc fmz) rfl rfl rfl rfl rfl) (VG (VT (vs:=fmc fmz) (cs':=fmc fmz) 0 rfl rfl rfl rfl (NR _) rfl rfl rfl (VG (VN ?_)))))))
 exact CR (Ret.cellTmp 2 3 rfl rfl rfl (RdL.many 0 rfl rfl) rfl (Imp.trans Imp.tl (sch_shut h0)).ent ⟨rfl,rfl⟩)
theorem pop_any(p:Nat)(S:SchM)(hw:S.Wf):Tri Tryz.prog 229 [.pointer (some ⟨p,0,none⟩)] Fr w [schH p S] (popR p S):=by
 cases hi:S.idle with
 | true=>
  have:=pop_idle Fr w p S hi
  unfold popR SchM.popM
  simpa only[hi,if_true] using this
 | false=>
  obtain⟨f,S1,h⟩:=popF_some hw hi
  have:=pop_spec Fr w p S 9 f S1 h hi
  unfold popR SchM.popM
  simpa only[hi,h,if_neg (by simp:¬false=true)] using this
theorem popM_some{S S1:SchM}{f:FrameM}(hw:S.Wf)(h:S.popM=some (f,S1)):∃k q,S.qs[k]?=some (f::q)∧S1.qs=S.qs.set k q∧S1.cap=S.cap∧S1.Wf:=by
 unfold SchM.popM at h
 split at h
 ·cases h
 ·exact popF_qs hw h
theorem popM_none{S:SchM}(hw:S.Wf)(h:S.popM=none):S.idle=true:=by
 unfold SchM.popM at h
 split at h
 ·assumption
 ·rename_i hi
  obtain⟨f,S1,h2⟩:=popF_some hw yk
  rw[h2] at h;cases h
theorem push_wf{S:SchM}(hw:S.Wf)(f:FrameM):(S.pushM f).2.Wf:=by
 unfold SchM.pushM
 cases ha:S.at_ f.cls with
 | none=>exact hw
 | some c=>
  dsimp only
  split
  ·exact hw
  ·split
   ·rename_i hlt
    unfold SchM.at_ at ha
    split at ha
    ·have hcw:=hw.cls c (ME ha)
     exact hw.set ha ⟨hcw.q0,hcw.q1,hcw.c0,hcw.c1,hcw.s0,hcw.s1⟩ ye (hw.low _ c ha)
    ·cases ha
   ·exact hw
theorem push_at{S:SchM}{f:FrameM}{k:Nat}{c:ClsM}(hk:f.cls=k)(hc:S.cls[k]?=some c)(ho:opCheck f.op=0):
  S.pushM f=if c.q.length<S.cap then (0,S.setC k { c with q:=c.q ++ [f] }) else (60,S):=by
 unfold SchM.pushM
 rw[hk,SchM.at_nat,hc]
 dsimp only
 rw[if_neg (fun h=>h ho),Int.toNat_natCast]
theorem push_qs{S:SchM}{f:FrameM}{k:Nat}{q:List FrameM}(hk:f.cls=k)(hc:S.qs[k]?=some q)(ho:opCheck f.op=0):
  (S.pushM f).1=(if q.length<S.cap then 0 else 60)∧(S.pushM f).2.qs=(if q.length<S.cap then S.qs.set k (q ++ [f]) else S.qs)∧(S.pushM f).2.cap=S.cap:=by
 unfold SchM.qs at hc
 rw[List.getElem?_map] at hc
 cases hcl:S.cls[k]? with
 | none=>rw[hcl] at hc;cases hc
 | some c=>
  rw[hcl] at hc
  obtain rfl:c.q=q:=Option.some.inj hc
  rw[push_at hk hcl ho]
  split
  ·exact⟨rfl,by simp[SchM.qs,SchM.setC,List.map_set],rfl⟩
  ·exact⟨rfl,rfl,rfl⟩
theorem exp_qs(S:SchM)(now:Int):(S.expM now).qs=S.qs.map fun q=>q.filter (stay now):=by simp[SchM.qs,SchM.expM,ClsM.expC,Function.comp_def]
theorem gone_qs(S:SchM)(now:Int):S.goneM now=S.qs.flatMap fun q=>q.filter (gone now):=by simp[SchM.qs,SchM.goneM,List.flatMap_map]
theorem exp_wf{S:SchM}(hw:S.Wf)(now:Int):(S.expM now).Wf:=by
 refine⟨by simpa[SchM.expM] using hw.n0,by simpa[SchM.expM] using hw.n1,hw.cap0,hw.cap1,by simpa[SchM.expM] using hw.turn,fun x hx=>?_,fun x hx=>?_,fun k x hx hl=>?_⟩
 ·obtain⟨c,hc,rfl⟩:=List.mem_map.1 hx
  exact(hw.cls c hc).exp now
 ·obtain⟨c,hc,rfl⟩:=List.mem_map.1 hx
  have:=hw.qs c hc
  have:=List.length_filter_le (stay now) c.q
  show(c.q.filter (stay now)).length≤S.cap
  omega
 ·simp only[SchM.expM,List.getElem?_map] at hx
  cases hc:S.cls[k]? with
  | none=>rw[hc] at hx;cases hx
  | some c=>
   rw[hc] at hx
   obtain rfl:c.expC now=x:=Option.some.inj hx
   have:=hw.low k c hc hl
   show(if c.q.filter (stay now)=[] then 0 else c.credit)≤95
   split<;>omega
end Sched
namespace Conf
open Go Api Vg T Sched
attribute [local irreducible] VO VC VA
def intCs(qs:List Int):List Value:=qs.map fun q=>.int .i64 q
def intH(a:Option Addr)(cap:Nat)(qs:List Int):HP:=slH 3 1 a qs.length cap (intCs qs)
theorem intCs_len(qs:List Int):(intCs qs).length=qs.length:=by simp[intCs]
theorem intCs_one(qs:List Int):(intCs qs).all Value.oneCell'=true:=by
 rw[List.all_eq_true]
 intro v hv
 obtain⟨q,_,rfl⟩:=List.mem_map.1 hv
 rfl
theorem cell_of_keep{w w':World}{b off:Nat}{v:Value}(hb:w'.heap[b]?=w.heap[b]?)(h:w.cell? ⟨b,off,none⟩=some v):w'.cell? ⟨b,off,none⟩=some v:=by
 rw[←h];unfold World.cell?;rw[hb]
theorem ints_of{X:Cx}{a:Option Addr}{qs:List Int}(h:IntsIn X.Fr X.w0 a qs){Fr':Nat→Prop}(hF:∀b,X.Fr b→Fr' b){w:World}{L:List HP}(hw:St X L w):IntsIn Fr' w a qs:=⟨fun hne=>by
 obtain⟨b,off,h1,h2,h3⟩:=h.at_ hne
 exact⟨b,off,h1,hF b h2,fun i v hv=>cell_of_keep (hw.keep.block b h2) (h3 i v hv)⟩⟩
theorem ints_sl{Fr:Nat→Prop}{w:World}{a:Option Addr}{c:Nat}{qs:List Int}(h:SatIn Fr [intH a c qs] w):IntsIn Fr w a qs:=by
 refine⟨fun hne=>?_⟩
 obtain⟨F,⟨i,G,rfl,hs,rfl⟩,hF⟩:=h
 obtain⟨hc,⟨rfl,h0,_,_⟩ | ⟨b,rest,rfl,rfl,hn,hr,hh⟩⟩:=hs
 ·exact absurd (List.eq_nil_of_length_eq_zero h0) hne
 ·refine⟨b,0,rfl,hF b yf,fun i v hv=>?_⟩
  rw[Nat.zero_add,cell_of_row w b i (intCs qs++rest).toArray _ _ hh]
  have hi:=(List.getElem?_eq_some_iff.1 hv).1
  have:(intCs qs++rest)[i]?=some (.int .i64 v):=by
   rw[List.getElem?_append_left (by simpa[intCs] using hi),intCs,List.getElem?_map,hv];rfl
  simpa using this
theorem ints_take{Fr:Nat→Prop}{w:World}{a:Option Addr}{qs:List Int}(h:IntsIn Fr w a qs)(n:Nat):IntsIn Fr w a (qs.take n):=by
 refine⟨fun hne=>?_⟩
 obtain⟨b,off,h1,h2,h3⟩:=h.at_ (fun e=>hne (by rw[e];simp))
 refine⟨b,off,h1,h2,fun i v hv=>h3 i v ?_⟩
 rw[List.getElem?_take] at hv
 split at hv
 ·exact hv
 ·cases hv
def AdOk(_:Option Addr):Prop:=True
structure ConfM where
 nodes:Int
 chain:Int
 clients:Int
 qs:List Int
 queue:Int
 window:Int
 reads:Int
 link:Int
 patience:Int
 timeout:Int
 budget:Int
 refill:Int
deriving DecidableEq
def ConfM.cells(c:ConfM)(a:Option Addr)(cap:Nat):List Value:=[.int .i64 c.nodes,.int .i64 c.chain,.int .i64 c.clients,.slice a c.qs.length cap,.int .i64 c.queue,.int .i64 c.window,.int .i64 c.reads,.int .i64 c.link,.int .i64 c.patience,.int .i64 c.timeout,.int .i64 c.budget,.int .i64 c.refill]
def near(x lo hi:Int):Int:=if (if hi<x then hi else x)<lo then lo else if hi<x then hi else x
theorem near_in{x lo hi:Int}(h:lo≤hi):lo≤near x lo hi∧near x lo hi≤hi:=by
 unfold near;split<;>split<;>omega
theorem near_same{x lo hi:Int}(h1:lo≤x)(h2:x≤hi):near x lo hi=x:=by
 unfold near;rw[if_neg yd,if_neg yd]
theorem near_alt(x lo hi:Int):(if lo<(if hi<x then hi else x) then (if hi<x then hi else x) else lo)=near x lo hi:=by
 unfold near;split<;>split<;>omega
def qNear(q:Int):Int:=near q 96 65536
def qFirst(qs:List Int):List Int:=if qs.take 4=[] then [96] else qs.take 4
def qFit(qs:List Int):List Int:=(qFirst qs).map qNear
def fitM(c:ConfM):ConfM:=⟨near c.nodes 1 6,near c.chain 1 (near c.nodes 1 6),near c.clients 1 6,qFit c.qs,near c.queue 1 16,near c.window 1 16,near c.reads 1 16,near c.link 4 64,near c.patience 4 64,near c.timeout 4 64,near c.budget 0 16,near c.refill 1 1099511627776⟩
theorem qFirst_len(qs:List Int):1≤(qFirst qs).length∧(qFirst qs).length≤4:=by
 unfold qFirst
 split
 ·simp
 ·rename_i h
  have:=List.length_take_le 4 qs
  refine⟨?_,this⟩
  cases hq:qs.take 4 with
  | nil=>exact absurd hq h
  | cons _ _=>simp
theorem qFit_len(qs:List Int):1≤(qFit qs).length∧(qFit qs).length≤4:=by
 have:=qFirst_len qs
 simpa[qFit] using this
theorem clamp_spec(x lo hi:Int):Tri Tryz.prog 73 [.int .i64 x,.int .i64 lo,.int .i64 hi] Fr w [] (fun v L=>v=.int .i64 (near x lo hi)∧L=[]):=by
 refine TF 12 Tryz.func73 rfl ym tabOk rfl rfl ?_
 refine xdf ?_
 exact CR (Ret.int 6 rfl rfl rfl ER ⟨rfl,rfl⟩)
theorem bring_spec{b off t:Nat}{cs:List Value}{x:Int}(lo hi:Int)(hx:cs[off]?=some (.int .i64 x)):
  Tri Tryz.prog 72 [.pointer (some ⟨b,off,none⟩),.int .i64 lo,.int .i64 hi] Fr w [pt b cs t] (fun v L=>v=.tuple #[]∧L=[pt b (cs.set off (.int .i64 (near x lo hi))) t]):=by
 refine TF 14 Tryz.func72 rfl ym tabOk rfl rfl ?_
 refine CG ?_
 refine VG (VO.ld 0 rfl rfl rfl hx ?_)
 refine VG (VO.callV (fun Fr w=>clamp_spec Fr w x lo hi) rfl ?_)
 refine VG (VO.st 0 rfl rfl rfl rfl (List.getElem?_eq_some_iff.1 hx).1 rfl rfl (VG (VN ?_)))
 exact xes
theorem clone_spec(a:Option Addr)(cap:Nat)(qs:List Int)(hq:IntsIn Fr w a qs)(hl:qs.length≤1000):Tri Tryz.prog 74 [.slice a qs.length cap] Fr w []
  (fun v L=>∃a' cap',v=.slice a' qs.length cap'∧L=[intH a' cap' qs]):=by
 refine TF 8 Tryz.func74 rfl ym tabOk rfl rfl ?_
 cases ha:a with
 | none=>
  have hnil:qs=[]:=by
   cases hqs:qs with
   | nil=>rfl
   | cons x xs=>
    obtain⟨b,off,h1,_⟩:=hq.at_ (by rw[hqs];simp)
    rw[ha] at h1;cases h1
  subst hnil
  refine zpc ?_
  exact CR (Ret.tmp 2 rfl rfl (Imp.slNil Imp.refl).ent ⟨none,0,rfl,rfl⟩)
 | some ad=>
  refine zpb ?_
  refine VG (VO.buildSlice (n:=0) (pv:=[]) [] rfl rfl rfl rfl yo rfl fun nb=>?_)
  refine VO.ent (L':=[slH 3 1 (some ⟨nb,0,none⟩) 0 0 []]) (Imp.sl (cs:=[]) (rest:=[]) rfl (NR _) rfl Imp.refl).ent ?_
  refine VG (VO.append (m:=qs.length) (news:=intCs qs) 0 rfl rfl rfl rfl rfl rfl rfl ?_ (intCs_one qs) (by show(0+qs.length)*8≤_;omega) yd fun a' c' hc'=>VG (VN ?_))
  ·by_cases hne:qs=[]
   ·subst hne
    exact⟨rfl,.inl ⟨some ad,cap,rfl,rfl⟩⟩
   ·obtain⟨b,off,h1,h2,h3⟩:=hq.at_ hne
    rw[ha] at h1
    cases h1
    refine⟨by simp[intCs],.inr ⟨b,off,cap,rfl,fun w' hw' j v hv=>?_⟩⟩
    rw[intCs,List.getElem?_map] at hv
    cases hj:qs[j]? with
    | none=>rw[hj] at hv;cases hv
    | some x=>
     rw[hj] at hv
     obtain rfl:=Option.some.inj hv
     exact cell_of_keep (hw'.keep.block b h2) (h3 j x hj)
  ·exact CR (Ret.tmp 2 rfl rfl (Imp.of_eq (by rw[Nat.zero_add];rfl)).ent ⟨a',c',by rw[Nat.zero_add],rfl⟩)
theorem equal_spec(a b:Option Addr)(ca cb:Nat)(qs ps:List Int)(hq:IntsIn Fr w a qs)(hp:IntsIn Fr w b ps)(hl:ps.length≤1000):Tri Tryz.prog 44 [.slice a qs.length ca,.slice b ps.length cb] Fr w []
  (fun v L=>v=.bool (decide (qs=ps))∧L=[]):=by
 refine TF 26 Tryz.func44 rfl ym tabOk rfl rfl ?_
 refine xdf ?_
 refine VC.condNE rfl (fun h1=>?_) (fun h1=>CK ?_)
 ·refine xdf ?_
  exact CR (Ret.bool 4 rfl rfl (by symm;apply DF;intro e;exact h1 yaj) ER ⟨rfl,rfl⟩)
 have h1:qs.length=ps.length:=by omega
 refine xdf ?_
 refine VC.loop (σ:=Nat) (fun i=>[(0,.slice a qs.length ca),(1,.slice b ps.length cb),(12,.int .i64 qs.length),(13,.int .i64 i)]) (fun _=>[]) (fun i=>i≤qs.length∧∀j,j<i→qs[j]?=ps[j]?) (fun i=>qs.length-i) 0 ⟨Nat.zero_le _,fun j hj=>by omega⟩ sbZ ER ?_
 rintro i ⟨hi,hall⟩
 refine xdf ?_
 refine CP rfl (fun h2=>CK ?_) (fun h2=>CX ?_)
 ·have hi1:i<qs.length:=by omega
  have hi2:i<ps.length:=by omega
  obtain⟨qb,qo,rfl,hFq,hcq⟩:=hq.at_ (fun e=>by rw[e] at hi1;simp at hi1)
  obtain⟨pb,po,rfl,hFp,hcp⟩:=hp.at_ (fun e=>by rw[e] at hi2;simp at hi2)
  have e1:=GE hi1
  have e2:=GE hi2
  generalize qs[i]=x at e1
  generalize ps[i]=y at e2
  refine CS (VC.block ?_)
  refine xet ?_
  refine CS (CD (ts 0 9 .nil) ym yr ?_)
  refine xeh ?_
  refine AG (AI rfl (light_idx i rfl rfl rfl rfl rfl rfl hi1) ?_)
  refine AG (VA.load rfl rfl rfl (RdL.rd (v:=.int .i64 x) hFq (by show w.cell? ⟨qb,qo+i*1,none⟩=_;rw[Nat.mul_one];exact hcq i x e1)) ?_)
  refine xeh ?_
  refine AG (AI rfl (light_idx i rfl rfl rfl rfl rfl rfl hi2) ?_)
  refine AG (VA.load rfl rfl rfl (RdL.rd (v:=.int .i64 y) hFp (by show w.cell? ⟨pb,po+i*1,none⟩=_;rw[Nat.mul_one];exact hcp i y e2)) ?_)
  refine xeh ?_
  refine VC.condNE rfl (fun h3=>?_) (fun h3=>CK ?_)
  ·refine xdf ?_
   exact CR (Ret.bool 4 rfl rfl (by symm;apply DF;intro e;rw[e,e2] at e1;exact h3 (Option.some.inj e1).symm) ER ⟨rfl,rfl⟩)
  refine zor ?_
  refine⟨i+1,⟨hi1,fun j hj=>?_⟩,by dsimp only;omega,sbZ,ER⟩
  by_cases hji:j=i
  ·subst hji;rw[e1,e2,h3]
  ·exact hall j yd
 ·have hi1:i=qs.length:=by omega
  subst hi1
  refine xdf ?_
  refine CR (Ret.bool 4 rfl rfl (by
   symm;apply DT
   apply List.ext_getElem?
   intro j
   by_cases hj:j<qs.length
   ·exact hall j hj
   ·rw[List.getElem?_eq_none yd,List.getElem?_eq_none yd]) ER ⟨rfl,rfl⟩)
def mixQ(qs:List Int)(i:Nat):List Int:=(qs.take i).map qNear++qs.drop i
theorem mixQ_len(qs:List Int)(i:Nat):(mixQ qs i).length=qs.length:=by simp[mixQ];omega
theorem mixQ_at{qs:List Int}{i:Nat}{x:Int}(h:qs[i]?=some x):(mixQ qs i)[i]?=some x:=by
 have hi:=(List.getElem?_eq_some_iff.1 h).1
 rw[mixQ,List.getElem?_append_right ye]
 simp only[List.length_map,List.length_take,List.getElem?_drop]
 rw[←h];congr 1;omega
theorem mixQ_set{qs:List Int}{i:Nat}{x:Int}(h:qs[i]?=some x):(mixQ qs i).set i (qNear x)=mixQ qs (i+1):=by
 have hi:=(List.getElem?_eq_some_iff.1 h).1
 rw[mixQ,mixQ,List.take_add_one,h,List.set_append_right _ _ ye]
 have h2:qs.drop i=x::qs.drop (i+1):=by
  rw[List.drop_eq_getElem_cons hi,(List.getElem?_eq_some_iff.1 h).2]
 rw[h2]
 have h3:i-((qs.take i).map qNear).length=0:=by simp;omega
 rw[h3];simp
theorem fit_spec(c:ConfM)(a:Option Addr)(cap:Nat)(hq:IntsIn Fr w a c.qs)(ha:AdOk a)(hcap:c.qs.length≤cap):Tri Tryz.prog 43 [.agg (c.cells a cap).toArray] Fr w []
  (fun v L=>∃a' cap',AdOk a'∧(fitM c).qs.length≤cap'∧v=.agg ((fitM c).cells a' cap').toArray∧L=[intH a' cap' (fitM c).qs]):=by
 refine TF 69 Tryz.func43 rfl ym tabOk rfl rfl ?_
 refine CS (CG (VG (VB (vs:=c.cells a cap) rfl fun x=>VG (VO.alloc rfl fun r=>VG (VN ?_)))))
 obtain⟨c0,c1,c2,qs,c4,c5,c6,c7,c8,c9,c10,c11⟩:=c
 dsimp only at hq hcap
 refine xet ?_
 refine CS (CG ?_)
 refine VG (VO.callAtT 1 (ψ:=fun v H=>H=pt x [.int .i64 (near c0 1 6),.int .i64 c1,.int .i64 c2,.slice a qs.length cap,.int .i64 c4,.int .i64 c5,.int .i64 c6,.int .i64 c7,.int .i64 c8,.int .i64 c9,.int .i64 c10,.int .i64 c11] 24) rfl rfl (fun Fr w _ _ _=>bring_spec Fr w _ _ rfl) rfl (fun v L1 h=>⟨_,h.2,rfl⟩) ?_)
 rintro _ _ rfl
 refine zoz ?_
 refine xgk ?_
 refine VG (VO.callAtT 1 (ψ:=fun v H=>H=pt x [.int .i64 (near c0 1 6),.int .i64 (near c1 1 (near c0 1 6)),.int .i64 c2,.slice a qs.length cap,.int .i64 c4,.int .i64 c5,.int .i64 c6,.int .i64 c7,.int .i64 c8,.int .i64 c9,.int .i64 c10,.int .i64 c11] 24) rfl rfl (fun Fr w _ _ _=>bring_spec Fr w _ _ rfl) rfl (fun v L1 h=>⟨_,h.2,rfl⟩) ?_)
 rintro _ _ rfl
 refine zoz ?_
 refine VG (VO.callAtT 1 (ψ:=fun v H=>H=pt x [.int .i64 (near c0 1 6),.int .i64 (near c1 1 (near c0 1 6)),.int .i64 (near c2 1 6),.slice a qs.length cap,.int .i64 c4,.int .i64 c5,.int .i64 c6,.int .i64 c7,.int .i64 c8,.int .i64 c9,.int .i64 c10,.int .i64 c11] 24) rfl rfl (fun Fr w _ _ _=>bring_spec Fr w _ _ rfl) rfl (fun v L1 h=>⟨_,h.2,rfl⟩) ?_)
 rintro _ _ rfl
 refine xeg ?_
 have ht4:=List.length_take_le 4 qs
 refine CS (CG (VG (VO.ld 1 rfl rfl rfl rfl (VG (VO.ld 1 rfl rfl rfl rfl ?_)))))
 refine VG (VI (light_head (qs.take 4).length rfl rfl rfl rfl rfl (by rw[List.length_take];split<;>omega) yak) ?_)
 refine VG (VK (Lc:=[]) (fun Fr w hF hs _=>clone_spec Fr w a cap (qs.take 4) (ints_take (ints_of hq hF hs) 4) yd) rfl rfl ?_)
 rintro _ _ ⟨a1,cap1,rfl,rfl⟩
 refine VG (VO.st 2 rfl rfl rfl rfl yal rfl rfl (VG (VN ?_)))
 have hf1:=qFirst_len qs
 refine VC.meet (σ:=Nat×Nat×List Value) (fun _=>[(1,pV x),(2,pV r),(3,.func (.func 72) #[] #[])])
  (fun y=>[pt y.1 (intCs (qFirst qs)++y.2.2) 3,pt r T.t24.zs 24,pt x [.int .i64 (near c0 1 6),.int .i64 (near c1 1 (near c0 1 6)),.int .i64 (near c2 1 6),.slice (some ⟨y.1,0,none⟩) (qFirst qs).length y.2.1,.int .i64 c4,.int .i64 c5,.int .i64 c6,.int .i64 c7,.int .i64 c8,.int .i64 c9,.int .i64 c10,.int .i64 c11] 24]) (fun y=>(qFirst qs).length≤y.2.1∧(intCs (qFirst qs)++y.2.2).length=y.2.1) ?_ ?_
 ·refine CS (CG (VG (VO.ld 2 rfl rfl rfl rfl (VG (VN ?_)))))
  refine CE rfl (fun hz=>?_) (fun hz=>?_)
  ·have hz:qs.take 4=[]:=List.eq_nil_of_length_eq_zero yd
   have hqf:qFirst qs=[96]:=by unfold qFirst;rw[if_pos hz]
   refine CG (VG (VO.buildSlice (n:=1) (pv:=[(0,.int .i64 96)]) [.int .i64 96] rfl rfl rfl rfl yo rfl fun nb=>?_))
   refine VG (VO.st 3 rfl rfl rfl rfl yal rfl rfl (VG (VN ?_)))
   refine⟨(nb,1,[]),⟨by rw[hqf];exact NR 1,by rw[hqf];rfl⟩,sbZ,?_⟩
   rw[hqf]
   exact(Imp.cons Imp.tl).ent
  ·have hz:¬qs.take 4=[]:=fun e=>hz yai
   have hqf:qFirst qs=qs.take 4:=by unfold qFirst;rw[if_neg hz]
   refine VC.opn 0 rfl (HOpn.sl 3 1 a1 (qs.take 4).length cap1 (intCs (qs.take 4))) fun y hy=>CK ?_
   obtain⟨h1,h2,h3⟩:=hy
   cases y with
   | none=>
    obtain⟨_,h5,_⟩:=h3
    exact absurd (List.eq_nil_of_length_eq_zero h5) hz
   | some y=>
    obtain⟨b1,rest⟩:=y
    obtain⟨rfl,h4⟩:=h3
    refine⟨(b1,cap1,rest),⟨by rw[hqf];exact h2,by rw[hqf];simpa using h4⟩,sbZ,?_⟩
    rw[hqf]
    exact ER
 rintro⟨qb,qcap,rest⟩ ⟨hqc,hrest⟩
 dsimp only at hqc hrest ⊢
 refine xdt ?_
 refine VC.loop (σ:=Nat) (fun i=>[(1,pV x),(2,pV r),(3,.func (.func 72) #[] #[]),(33,.int .i64 (qFirst qs).length),(34,.int .i64 i)])
  (fun i=>[pt qb (intCs (mixQ (qFirst qs) i)++rest) 3,pt r T.t24.zs 24,pt x [.int .i64 (near c0 1 6),.int .i64 (near c1 1 (near c0 1 6)),.int .i64 (near c2 1 6),.slice (some ⟨qb,0,none⟩) (qFirst qs).length qcap,.int .i64 c4,.int .i64 c5,.int .i64 c6,.int .i64 c7,.int .i64 c8,.int .i64 c9,.int .i64 c10,.int .i64 c11] 24]) (fun i=>i≤(qFirst qs).length) (fun i=>4-i) 0 (Nat.zero_le _) sbZ ER ?_
 intro i hi
 refine xdf ?_
 refine CP rfl (fun h1=>CK ?_) (fun h1=>CX ?_)
 ·have hi2:i<(qFirst qs).length:=by omega
  have hy:=GE hi2
  generalize (qFirst qs)[i]=y at hy
  have hc:(intCs (mixQ (qFirst qs) i)++rest)[0+i*1]?=some (.int .i64 y):=by
   rw[Nat.zero_add,Nat.mul_one,List.getElem?_append_left yam,intCs,List.getElem?_map,mixQ_at hy];rfl
  have hset:(intCs (mixQ (qFirst qs) i)++rest).set (0+i*1) (.int .i64 (near y 96 65536))=intCs (mixQ (qFirst qs) (i+1))++rest:=by
   rw[Nat.zero_add,Nat.mul_one,List.set_append_left _ _ yam,intCs,←mixQ_set hy,intCs,List.map_set];rfl
  refine xdt ?_
  refine xdj ?_
  refine VG (VO.callAtT 0 (ψ:=fun v H=>H=pt qb (intCs (mixQ (qFirst qs) (i+1))++rest) 3) rfl rfl (fun Fr w _ _ _=>bring_spec Fr w _ _ hc) rfl (fun v L1 h=>⟨_,h.2,by rw[hset]⟩) ?_)
  rintro _ _ rfl
  refine xeg ?_
  refine zor ?_
  exact⟨i+1,hi2,by dsimp only;omega,sbZ,ER⟩
 have hi2:i=(qFirst qs).length:=by omega
 subst hi2
 refine CS (CG ?_)
 refine VG (VO.callAtT 2 (ψ:=fun v H=>H=pt x [.int .i64 (near c0 1 6),.int .i64 (near c1 1 (near c0 1 6)),.int .i64 (near c2 1 6),.slice (some ⟨qb,0,none⟩) (qFirst qs).length qcap,.int .i64 (near c4 1 16),.int .i64 c5,.int .i64 c6,.int .i64 c7,.int .i64 c8,.int .i64 c9,.int .i64 c10,.int .i64 c11] 24) rfl rfl (fun Fr w _ _ _=>bring_spec Fr w _ _ rfl) rfl (fun v L1 h=>⟨_,h.2,rfl⟩) ?_)
 rintro _ _ rfl
 refine zoz ?_
 refine VG (VO.callAtT 2 (ψ:=fun v H=>H=pt x [.int .i64 (near c0 1 6),.int .i64 (near c1 1 (near c0 1 6)),.int .i64 (near c2 1 6),.slice (some ⟨qb,0,none⟩) (qFirst qs).length qcap,.int .i64 (near c4 1 16),.int .i64 (near c5 1 16),.int .i64 c6,.int .i64 c7,.int .i64 c8,.int .i64 c9,.int .i64 c10,.int .i64 c11] 24) rfl rfl (fun Fr w _ _ _=>bring_spec Fr w _ _ rfl) rfl (fun v L1 h=>⟨_,h.2,rfl⟩) ?_)
 rintro _ _ rfl
 refine zoz ?_
 refine VG (VO.callAtT 2 (ψ:=fun v H=>H=pt x [.int .i64 (near c0 1 6),.int .i64 (near c1 1 (near c0 1 6)),.int .i64 (near c2 1 6),.slice (some ⟨qb,0,none⟩) (qFirst qs).length qcap,.int .i64 (near c4 1 16),.int .i64 (near c5 1 16),.int .i64 (near c6 1 16),.int .i64 c7,.int .i64 c8,.int .i64 c9,.int .i64 c10,.int .i64 c11] 24) rfl rfl (fun Fr w _ _ _=>bring_spec Fr w _ _ rfl) rfl (fun v L1 h=>⟨_,h.2,rfl⟩) ?_)
 rintro _ _ rfl
 refine zoz ?_
 refine VG (VO.callAtT 2 (ψ:=fun v H=>H=pt x [.int .i64 (near c0 1 6),.int .i64 (near c1 1 (near c0 1 6)),.int .i64 (near c2 1 6),.slice (some ⟨qb,0,none⟩) (qFirst qs).length qcap,.int .i64 (near c4 1 16),.int .i64 (near c5 1 16),.int .i64 (near c6 1 16),.int .i64 (near c7 4 64),.int .i64 c8,.int .i64 c9,.int .i64 c10,.int .i64 c11] 24) rfl rfl (fun Fr w _ _ _=>bring_spec Fr w _ _ rfl) rfl (fun v L1 h=>⟨_,h.2,rfl⟩) ?_)
 rintro _ _ rfl
 refine zoz ?_
 refine VG (VO.callAtT 2 (ψ:=fun v H=>H=pt x [.int .i64 (near c0 1 6),.int .i64 (near c1 1 (near c0 1 6)),.int .i64 (near c2 1 6),.slice (some ⟨qb,0,none⟩) (qFirst qs).length qcap,.int .i64 (near c4 1 16),.int .i64 (near c5 1 16),.int .i64 (near c6 1 16),.int .i64 (near c7 4 64),.int .i64 (near c8 4 64),.int .i64 c9,.int .i64 c10,.int .i64 c11] 24) rfl rfl (fun Fr w _ _ _=>bring_spec Fr w _ _ rfl) rfl (fun v L1 h=>⟨_,h.2,rfl⟩) ?_)
 rintro _ _ rfl
 refine zoz ?_
 refine VG (VO.callAtT 2 (ψ:=fun v H=>H=pt x [.int .i64 (near c0 1 6),.int .i64 (near c1 1 (near c0 1 6)),.int .i64 (near c2 1 6),.slice (some ⟨qb,0,none⟩) (qFirst qs).length qcap,.int .i64 (near c4 1 16),.int .i64 (near c5 1 16),.int .i64 (near c6 1 16),.int .i64 (near c7 4 64),.int .i64 (near c8 4 64),.int .i64 (near c9 4 64),.int .i64 c10,.int .i64 c11] 24) rfl rfl (fun Fr w _ _ _=>bring_spec Fr w _ _ rfl) rfl (fun v L1 h=>⟨_,h.2,rfl⟩) ?_)
 rintro _ _ rfl
 refine zoz ?_
 refine VG (VO.callAtT 2 (ψ:=fun v H=>H=pt x [.int .i64 (near c0 1 6),.int .i64 (near c1 1 (near c0 1 6)),.int .i64 (near c2 1 6),.slice (some ⟨qb,0,none⟩) (qFirst qs).length qcap,.int .i64 (near c4 1 16),.int .i64 (near c5 1 16),.int .i64 (near c6 1 16),.int .i64 (near c7 4 64),.int .i64 (near c8 4 64),.int .i64 (near c9 4 64),.int .i64 (near c10 0 16),.int .i64 c11] 24) rfl rfl (fun Fr w _ _ _=>bring_spec Fr w _ _ rfl) rfl (fun v L1 h=>⟨_,h.2,rfl⟩) ?_)
 rintro _ _ rfl
 refine zoz ?_
 refine VG (VO.callAtT 2 (ψ:=fun v H=>H=pt x [.int .i64 (near c0 1 6),.int .i64 (near c1 1 (near c0 1 6)),.int .i64 (near c2 1 6),.slice (some ⟨qb,0,none⟩) (qFirst qs).length qcap,.int .i64 (near c4 1 16),.int .i64 (near c5 1 16),.int .i64 (near c6 1 16),.int .i64 (near c7 4 64),.int .i64 (near c8 4 64),.int .i64 (near c9 4 64),.int .i64 (near c10 0 16),.int .i64 (near c11 1 1099511627776)] 24) rfl rfl (fun Fr w _ _ _=>bring_spec Fr w _ _ rfl) rfl (fun v L1 h=>⟨_,h.2,rfl⟩) ?_)
 rintro _ _ rfl
 refine xeg ?_
 have hmix:mixQ (qFirst qs) (qFirst qs).length=qFit qs:=by simp[mixQ,qFit]
 have hql:(qFirst qs).length=(qFit qs).length:=by simp[qFit]
 rw[hmix]
 refine CS (CG (VG (VL 2 [.int .i64 (near c0 1 6),.int .i64 (near c1 1 (near c0 1 6)),.int .i64 (near c2 1 6),.slice (some ⟨qb,0,none⟩) (qFirst qs).length qcap,.int .i64 (near c4 1 16),.int .i64 (near c5 1 16),.int .i64 (near c6 1 16),.int .i64 (near c7 4 64),.int .i64 (near c8 4 64),.int .i64 (near c9 4 64),.int .i64 (near c10 0 16),.int .i64 (near c11 1 1099511627776)] rfl rfl rfl rfl ?_)))
 refine VG (VT (vs:=[.int .i64 (near c0 1 6),.int .i64 (near c1 1 (near c0 1 6)),.int .i64 (near c2 1 6),.slice (some ⟨qb,0,none⟩) (qFirst qs).length qcap,.int .i64 (near c4 1 16),.int .i64 (near c5 1 16),.int .i64 (near c6 1 16),.int .i64 (near c7 4 64),.int .i64 (near c8 4 64),.int .i64 (near c9 4 64),.int .i64 (near c10 0 16),.int .i64 (near c11 1 1099511627776)]) (cs':=[.int .i64 (near c0 1 6),.int .i64 (near c1 1 (near c0 1 6)),.int .i64 (near c2 1 6),.slice (some ⟨qb,0,none⟩) (qFirst qs).length qcap,.int .i64 (near c4 1 16),.int .i64 (near c5 1 16),.int .i64 (near c6 1 16),.int .i64 (near c7 4 64),.int .i64 (near c8 4 64),.int .i64 (near c9 4 64),.int .i64 (near c10 0 16),.int .i64 (near c11 1 1099511627776)]) 1 rfl rfl rfl rfl (NR _) rfl rfl rfl (VG (VN ?_)))
 refine CR (Ret.cell 2 rfl rfl rfl (RdL.many 1 rfl rfl) (L':=[intH (some ⟨qb,0,none⟩) qcap (qFit qs)]) ?_ ⟨some ⟨qb,0,none⟩,qcap,trivial,by show(qFit qs).length≤_;omega,?_,rfl⟩)
 ·refine(Imp.sl (b:=qb) (rest:=rest) (by rw[intCs_len,Nat.mul_one]) yd (by rw[←hrest,Nat.mul_one,List.length_append,List.length_append,intCs_len,intCs_len,hql]) (Imp.app (L:=[_]) (M:=[_]) Imp.refl Imp.nil)).ent
 ·rw[hql];rfl
end Conf
namespace Conf
open Go Api Vg T Sched
attribute [local irreducible] VO VC VA
def checkM(c:ConfM):Int:=if c=fitM c then 0 else 2
theorem conf_ext{c d:ConfM}(h0:c.nodes=d.nodes)(h1:c.chain=d.chain)(h2:c.clients=d.clients)(h3:c.qs=d.qs)(h4:c.queue=d.queue)(h5:c.window=d.window)(h6:c.reads=d.reads)(h7:c.link=d.link)(h8:c.patience=d.patience)(h9:c.timeout=d.timeout)(h10:c.budget=d.budget)(h11:c.refill=d.refill):c=d:=by
 cases c;cases d;simp_all
theorem check_spec(c:ConfM)(a:Option Addr)(cap:Nat)(hq:IntsIn Fr w a c.qs)(ha:AdOk a)(hcap:c.qs.length≤cap):Tri Tryz.prog 19 [.agg (c.cells a cap).toArray] Fr w []
  (fun v L=>v=.int .i64 (checkM c)∧L=[]):=by
 refine TF 91 Tryz.func19 rfl ym tabOk rfl rfl ?_
 refine CS (CG (VG (VB (vs:=c.cells a cap) rfl fun x=>VG (VN ?_))))
 refine CS (CG (VG (VL 0 (c.cells a cap) rfl rfl rfl rfl ?_)))
 refine VG (VK (Lc:=[]) (fun Fr w hF hs _=>fit_spec Fr w c a cap (ints_of hq hF hs) ha hcap) rfl rfl ?_)
 rintro _ _ ⟨a',cap',ha',hcap',rfl,rfl⟩
 refine VG (VO.alloc rfl fun f=>VG (VT (vs:=(fitM c).cells a' cap') (cs':=(fitM c).cells a' cap') 0 rfl rfl rfl rfl (NR _) rfl rfl rfl (VG (VN ?_))))
 refine VC.meet (σ:=Bool) (fun b=>[(4,.bool b)]) (fun _=>[]) (fun b=>b=decide (c=fitM c)) ?_ ?_
 rotate_left
 ·rintro b rfl
  refine CS (CS (CG (VG (VN ?_))))
  refine VC.condN rfl (fun h=>?_) (fun h=>CK ?_)
  ·have h:=of_decide_eq_false h
   refine xdf ?_
   exact CR (Ret.int 2 rfl rfl (by rw[checkM,if_neg h]) ER ⟨rfl,rfl⟩)
  ·have h:=of_decide_eq_true h
   refine xdf ?_
   exact CR (Ret.int 2 rfl rfl (by rw[checkM,if_pos h]) ER ⟨rfl,rfl⟩)
 refine CG ?_
 refine xgl ?_
 refine VG (VO.split 12 rfl rfl (fun h0=>?_) (fun h0=>?_))
 rotate_left
 ·refine VG (VY 19 false rfl rfl ?_)
  refine VG (VY 26 false rfl rfl ?_)
  refine VG (VY 33 false rfl rfl ?_)
  refine xdw ?_
  refine xgm ?_
  refine zqh ?_
  refine VG (VN ⟨false,?_,sbZ,Imp.nil.ent⟩)
  show false=decide _;symm;apply DF;intro e
  exact(beq_eq_false_iff_ne.1 h0) (congrArg ConfM.nodes e)
 refine xgl ?_
 refine VG (VO.split 19 rfl rfl (fun h1=>?_) (fun h1=>?_))
 rotate_left
 ·refine VG (VY 26 false rfl rfl ?_)
  refine VG (VY 33 false rfl rfl ?_)
  refine xdw ?_
  refine xgm ?_
  refine zqh ?_
  refine VG (VN ⟨false,?_,sbZ,Imp.nil.ent⟩)
  show false=decide _;symm;apply DF;intro e
  exact(beq_eq_false_iff_ne.1 h1) (congrArg ConfM.chain e)
 refine xgl ?_
 refine VG (VO.split 26 rfl rfl (fun h2=>?_) (fun h2=>?_))
 rotate_left
 ·refine VG (VY 33 false rfl rfl ?_)
  refine xdw ?_
  refine xgm ?_
  refine zqh ?_
  refine VG (VN ⟨false,?_,sbZ,Imp.nil.ent⟩)
  show false=decide _;symm;apply DF;intro e
  exact(beq_eq_false_iff_ne.1 h2) (congrArg ConfM.clients e)
 refine xgl ?_
 refine VG (VV (fun Fr w hF hs h2=>equal_spec Fr w a a' cap cap' c.qs (fitM c).qs (ints_of hq hF hs) (ints_sl (h2.at_ 1 rfl)) (by have:=(qFit_len c.qs).2;show(qFit c.qs).length≤1000;omega)) rfl ?_)
 refine VG (VO.split 33 rfl rfl (fun h3=>?_) (fun h3=>?_))
 rotate_left
 ·refine xdw ?_
  refine xgm ?_
  refine zqh ?_
  refine VG (VN ⟨false,?_,sbZ,Imp.nil.ent⟩)
  show false=decide _;symm;apply DF;intro e
  exact(of_decide_eq_false h3) (congrArg ConfM.qs e)
 refine xgl ?_
 refine VG (VO.split 40 rfl rfl (fun h4=>?_) (fun h4=>?_))
 rotate_left
 ·refine xgm ?_
  refine zqh ?_
  refine VG (VN ⟨false,?_,sbZ,Imp.nil.ent⟩)
  show false=decide _;symm;apply DF;intro e
  exact(beq_eq_false_iff_ne.1 h4) (congrArg ConfM.queue e)
 refine xgl ?_
 refine VG (VO.split 47 rfl rfl (fun h5=>?_) (fun h5=>?_))
 rotate_left
 ·refine zqh ?_
  refine VG (VN ⟨false,?_,sbZ,Imp.nil.ent⟩)
  show false=decide _;symm;apply DF;intro e
  exact(beq_eq_false_iff_ne.1 h5) (congrArg ConfM.window e)
 refine xgl ?_
 refine VG (VO.split 54 rfl rfl (fun h6=>?_) (fun h6=>?_))
 rotate_left
 ·refine zpw ?_
  refine VG (VN ⟨false,?_,sbZ,Imp.nil.ent⟩)
  show false=decide _;symm;apply DF;intro e
  exact(beq_eq_false_iff_ne.1 h6) (congrArg ConfM.reads e)
 refine xgl ?_
 refine VG (VO.split 61 rfl rfl (fun h7=>?_) (fun h7=>?_))
 rotate_left
 ·refine zps ?_
  refine VG (VN ⟨false,?_,sbZ,Imp.nil.ent⟩)
  show false=decide _;symm;apply DF;intro e
  exact(beq_eq_false_iff_ne.1 h7) (congrArg ConfM.link e)
 refine xgl ?_
 refine VG (VO.split 68 rfl rfl (fun h8=>?_) (fun h8=>?_))
 rotate_left
 ·refine zpi ?_
  refine VG (VN ⟨false,?_,sbZ,Imp.nil.ent⟩)
  show false=decide _;symm;apply DF;intro e
  exact(beq_eq_false_iff_ne.1 h8) (congrArg ConfM.patience e)
 refine xgl ?_
 refine VG (VO.split 75 rfl rfl (fun h9=>?_) (fun h9=>?_))
 rotate_left
 ·refine xgr ?_
  refine VG (VN ⟨false,?_,sbZ,Imp.nil.ent⟩)
  show false=decide _;symm;apply DF;intro e
  exact(beq_eq_false_iff_ne.1 h9) (congrArg ConfM.timeout e)
 refine xgl ?_
 refine VG (VO.split 82 rfl rfl (fun h10=>?_) (fun h10=>?_))
 rotate_left
 ·refine VG (VN ⟨false,?_,sbZ,Imp.nil.ent⟩)
  show false=decide _;symm;apply DF;intro e
  exact(beq_eq_false_iff_ne.1 h10) (congrArg ConfM.budget e)
 refine xgl ?_
 refine VG (VN ⟨(c.refill == (fitM c).refill),?_,sbZ,Imp.nil.ent⟩)
 show(c.refill == (fitM c).refill)=decide _
 rw[Bool.eq_iff_iff,beq_iff_eq,decide_eq_true_iff]
 refine⟨fun h11=>conf_ext (eq_of_beq h0) (eq_of_beq h1) (eq_of_beq h2) (of_decide_eq_true h3) (eq_of_beq h4) (eq_of_beq h5) (eq_of_beq h6) (eq_of_beq h7) (eq_of_beq h8) (eq_of_beq h9) (eq_of_beq h10) h11,fun e=>congrArg ConfM.refill e⟩
theorem rnear_spec(x lo hi:Int):Tri Tryz.prog 40 [.int .i64 x,.int .i64 lo,.int .i64 hi] Fr w [] (fun v L=>v=.int .i64 (near x lo hi)∧L=[]):=by
 refine TF 12 Tryz.func40 rfl ym tabOk rfl rfl ?_
 refine xdf ?_
 exact CR (Ret.int 6 rfl rfl (near_alt x lo hi) ER ⟨rfl,rfl⟩)
theorem light_conf{X:Cx}(hX:X.tab=tab){e:Env}{parts:Array (Nat×Operand)}{x0 x1 x2 x4 x5 x6 x7 x8 x9 x10 x11:Int}
  (hp:evP e parts.toList=some [(0,.int .i64 x0),(1,.int .i64 x1),(2,.int .i64 x2),(4,.int .i64 x4),(5,.int .i64 x5),(6,.int .i64 x6),(7,.int .i64 x7),(8,.int .i64 x8),(9,.int .i64 x9),(10,.int .i64 x10),(11,.int .i64 x11)]):
  Light X (.build 24 parts) e (.agg ([.int .i64 x0,.int .i64 x1,.int .i64 x2,.slice none 0 0,.int .i64 x4,.int .i64 x5,.int .i64 x6,.int .i64 x7,.int .i64 x8,.int .i64 x9,.int .i64 x10,.int .i64 x11]:List Value).toArray):=
 LB _ (by rw[hX];rfl) rfl hp ym rfl
theorem HOpn.adok(el esz:Nat)(a:Option Addr)(n cap:Nat)(cs:List Value):HOpn (ι:=Unit) (slH el esz a n cap cs) (fun _=>AdOk a) (fun _=>[slH el esz a n cap cs]):=by
 intro w ids h hn
 exact⟨(),trivial,ids,⟨ids,[],by simp,h,rfl⟩,hn,fun b h=>h⟩
structure FitI(qs:List Int)(x:Nat×Option Addr×Nat):Prop where
 le:x.1≤(qs.take 4).length
 room:x.1≤x.2.2
theorem rfit_spec(c:ConfM)(a:Option Addr)(cap:Nat)(hq:IntsIn Fr w a c.qs):Tri Tryz.prog 16 [.agg (c.cells a cap).toArray] Fr w []
  (fun v L=>∃a' cap',AdOk a'∧(fitM c).qs.length≤cap'∧v=.agg ((fitM c).cells a' cap').toArray∧L=[intH a' cap' (fitM c).qs]):=by
 refine TF 74 Tryz.func16 rfl ym tabOk rfl rfl ?_
 refine CS (CG (VG (VB (vs:=c.cells a cap) rfl fun x=>VG (VO.alloc rfl fun r=>VG (VN ?_)))))
 refine xgs ?_
 refine VG (VO.callV (fun Fr w=>rnear_spec Fr w c.nodes 1 6) rfl (VG (VN ?_)))
 refine VC.meet (σ:=Nat) (fun d=>[(1,pV x),(2,pV r),(4,pV d)])
  (fun d=>[pt d [.int .i64 (near c.nodes 1 6),.int .i64 (near c.chain 1 (near c.nodes 1 6)),.int .i64 (near c.clients 1 6),.slice none 0 0,.int .i64 (near c.queue 1 16),.int .i64 (near c.window 1 16),.int .i64 (near c.reads 1 16),.int .i64 (near c.link 4 64),.int .i64 (near c.patience 4 64),.int .i64 (near c.timeout 4 64),.int .i64 (near c.budget 0 16),.int .i64 (near c.refill 1 1099511627776)] 24,pt r T.t24.zs 24,pt x (c.cells a cap) 24]) (fun _=>True) ?_ ?_
 ·refine CD (.take 0 (.take 1 (.take 2 (.take 3 (.take 5 (.take 6 (.take 8 (.take 9 (.take 11 (.take 12 (.take 14 (.take 15 (.take 17 (.take 18 (.take 20 (.take 21 (.take 23 (.take 24 (.take 26 (.take 27 (.take 29 (.take 30 (.two 4 33 (.two 7 33 (.two 10 33 (.two 13 33 (.two 16 33 (.two 19 33 (.two 22 33 (.two 25 33 (.two 28 33 (.two 31 33 (.take 32 (.only 33 (.only 34 .nil))) (.only 31 (.take 32 (.only 34 .nil)))) (.only 28 (.only 31 (.take 32 (.only 34 .nil))))) (.only 25 (.only 28 (.only 31 (.take 32 (.only 34 .nil)))))) (.only 22 (.only 25 (.only 28 (.only 31 (.take 32 (.only 34 .nil))))))) (.only 19 (.only 22 (.only 25 (.only 28 (.only 31 (.take 32 (.only 34 .nil)))))))) (.only 16 (.only 19 (.only 22 (.only 25 (.only 28 (.only 31 (.take 32 (.only 34 .nil))))))))) (.only 13 (.only 16 (.only 19 (.only 22 (.only 25 (.only 28 (.only 31 (.take 32 (.only 34 .nil)))))))))) (.only 10 (.only 13 (.only 16 (.only 19 (.only 22 (.only 25 (.only 28 (.only 31 (.take 32 (.only 34 .nil))))))))))) (.only 7 (.only 10 (.only 13 (.only 16 (.only 19 (.only 22 (.only 25 (.only 28 (.only 31 (.take 32 (.only 34 .nil)))))))))))) (.only 4 (.only 7 (.only 10 (.only 13 (.only 16 (.only 19 (.only 22 (.only 25 (.only 28 (.only 31 (.take 32 (.only 34 .nil))))))))))))))))))))))))))))))))))) ym yr ?_
  refine xgc ?_
  refine VA.keepS (cond:=fun L'=>pt x (c.cells a cap) 24∈L') (fun S hS=>?_) (fun L' hL'=>?_)
  rotate_left
  ·obtain⟨i,hi⟩:=List.getElem?_of_mem hL'
   exact(by(try refine Pd.st ?_);(repeat(first|exact Pd.nil|exact Pd.fnil|refine Pd.inner ?_|refine Pd.skip yr ?_|refine zf (RdL.blk (RdL.one i hi rfl) rfl) ?_|refine zf ((RdL.one i hi rfl)) ?_|refine zc (RdL.blk (RdL.one i hi rfl) rfl) ?_|refine zc ((RdL.one i hi rfl)) ?_)))
  refine AG (VA.two rfl rfl rfl rfl rfl (OpT.callP (φ:=fun v=>v=.int .i64 (near c.chain 1 (near c.nodes 1 6))) (fun Fr w _ _ _=>rnear_spec Fr w _ _ _) rfl) rfl rfl rfl (OpT.alloc rfl) (fun v L' h=>by obtain⟨_,rfl⟩:=h;exact Pd.st yan) (fun v L' h=>by obtain⟨d,_,rfl⟩:=h;exact Pd.st yao) ?_ ?_)
  rotate_left
  ·rintro _ _ ⟨d,rfl,rfl⟩
   refine AG (AO (OpT.callP (φ:=fun v=>v=.int .i64 (near c.chain 1 (near c.nodes 1 6))) (fun Fr w _ _ _=>rnear_spec Fr w _ _ _) rfl) rfl (fun v L' h=>by obtain⟨_,rfl⟩:=h;exact yao) ?_)
   rintro _ _ ⟨rfl,rfl⟩
   refine xgt ?_
   rintro _ _ ⟨rfl,rfl⟩
   refine xgu ?_
   rintro _ _ ⟨rfl,rfl⟩
   refine xgv ?_
   rintro _ _ ⟨rfl,rfl⟩
   refine xgw ?_
   rintro _ _ ⟨rfl,rfl⟩
   refine xgx ?_
   rintro _ _ ⟨rfl,rfl⟩
   refine xgy ?_
   rintro _ _ ⟨rfl,rfl⟩
   refine xgz ?_
   rintro _ _ ⟨rfl,rfl⟩
   refine xha ?_
   rintro _ _ ⟨rfl,rfl⟩
   refine xhb ?_
   rintro _ _ ⟨rfl,rfl⟩
   exact zpn
  rintro _ _ ⟨rfl,rfl⟩
  refine AG (VA.two rfl rfl rfl rfl rfl (OpT.callP (φ:=fun v=>v=.int .i64 (near c.clients 1 6)) (fun Fr w _ _ _=>rnear_spec Fr w _ _ _) rfl) rfl rfl rfl (OpT.alloc rfl) (fun v L' h=>by obtain⟨_,rfl⟩:=h;exact Pd.st yan) (fun v L' h=>by obtain⟨d,_,rfl⟩:=h;exact Pd.st yao) ?_ ?_)
  rotate_left
  ·rintro _ _ ⟨d,rfl,rfl⟩
   refine xgt ?_
   rintro _ _ ⟨rfl,rfl⟩
   refine xgu ?_
   rintro _ _ ⟨rfl,rfl⟩
   refine xgv ?_
   rintro _ _ ⟨rfl,rfl⟩
   refine xgw ?_
   rintro _ _ ⟨rfl,rfl⟩
   refine xgx ?_
   rintro _ _ ⟨rfl,rfl⟩
   refine xgy ?_
   rintro _ _ ⟨rfl,rfl⟩
   refine xgz ?_
   rintro _ _ ⟨rfl,rfl⟩
   refine xha ?_
   rintro _ _ ⟨rfl,rfl⟩
   refine xhb ?_
   rintro _ _ ⟨rfl,rfl⟩
   exact zpn
  rintro _ _ ⟨rfl,rfl⟩
  refine AG (VA.two rfl rfl rfl rfl rfl (OpT.callP (φ:=fun v=>v=.int .i64 (near c.queue 1 16)) (fun Fr w _ _ _=>rnear_spec Fr w _ _ _) rfl) rfl rfl rfl (OpT.alloc rfl) (fun v L' h=>by obtain⟨_,rfl⟩:=h;exact Pd.st yan) (fun v L' h=>by obtain⟨d,_,rfl⟩:=h;exact Pd.st yao) ?_ ?_)
  rotate_left
  ·rintro _ _ ⟨d,rfl,rfl⟩
   refine xgu ?_
   rintro _ _ ⟨rfl,rfl⟩
   refine xgv ?_
   rintro _ _ ⟨rfl,rfl⟩
   refine xgw ?_
   rintro _ _ ⟨rfl,rfl⟩
   refine xgx ?_
   rintro _ _ ⟨rfl,rfl⟩
   refine xgy ?_
   rintro _ _ ⟨rfl,rfl⟩
   refine xgz ?_
   rintro _ _ ⟨rfl,rfl⟩
   refine xha ?_
   rintro _ _ ⟨rfl,rfl⟩
   refine xhb ?_
   rintro _ _ ⟨rfl,rfl⟩
   exact zpn
  rintro _ _ ⟨rfl,rfl⟩
  refine AG (VA.two rfl rfl rfl rfl rfl (OpT.callP (φ:=fun v=>v=.int .i64 (near c.window 1 16)) (fun Fr w _ _ _=>rnear_spec Fr w _ _ _) rfl) rfl rfl rfl (OpT.alloc rfl) (fun v L' h=>by obtain⟨_,rfl⟩:=h;exact Pd.st yan) (fun v L' h=>by obtain⟨d,_,rfl⟩:=h;exact Pd.st yao) ?_ ?_)
  rotate_left
  ·rintro _ _ ⟨d,rfl,rfl⟩
   refine xgv ?_
   rintro _ _ ⟨rfl,rfl⟩
   refine xgw ?_
   rintro _ _ ⟨rfl,rfl⟩
   refine xgx ?_
   rintro _ _ ⟨rfl,rfl⟩
   refine xgy ?_
   rintro _ _ ⟨rfl,rfl⟩
   refine xgz ?_
   rintro _ _ ⟨rfl,rfl⟩
   refine xha ?_
   rintro _ _ ⟨rfl,rfl⟩
   refine xhb ?_
   rintro _ _ ⟨rfl,rfl⟩
   exact zpn
  rintro _ _ ⟨rfl,rfl⟩
  refine AG (VA.two rfl rfl rfl rfl rfl (OpT.callP (φ:=fun v=>v=.int .i64 (near c.reads 1 16)) (fun Fr w _ _ _=>rnear_spec Fr w _ _ _) rfl) rfl rfl rfl (OpT.alloc rfl) (fun v L' h=>by obtain⟨_,rfl⟩:=h;exact Pd.st yan) (fun v L' h=>by obtain⟨d,_,rfl⟩:=h;exact Pd.st yao) ?_ ?_)
  rotate_left
  ·rintro _ _ ⟨d,rfl,rfl⟩
   refine xgw ?_
   rintro _ _ ⟨rfl,rfl⟩
   refine xgx ?_
   rintro _ _ ⟨rfl,rfl⟩
   refine xgy ?_
   rintro _ _ ⟨rfl,rfl⟩
   refine xgz ?_
   rintro _ _ ⟨rfl,rfl⟩
   refine xha ?_
   rintro _ _ ⟨rfl,rfl⟩
   refine xhb ?_
   rintro _ _ ⟨rfl,rfl⟩
   exact zpn
  rintro _ _ ⟨rfl,rfl⟩
  refine AG (VA.two rfl rfl rfl rfl rfl (OpT.callP (φ:=fun v=>v=.int .i64 (near c.link 4 64)) (fun Fr w _ _ _=>rnear_spec Fr w _ _ _) rfl) rfl rfl rfl (OpT.alloc rfl) (fun v L' h=>by obtain⟨_,rfl⟩:=h;exact Pd.st yan) (fun v L' h=>by obtain⟨d,_,rfl⟩:=h;exact Pd.st yao) ?_ ?_)
  rotate_left
  ·rintro _ _ ⟨d,rfl,rfl⟩
   refine xgx ?_
   rintro _ _ ⟨rfl,rfl⟩
   refine xgy ?_
   rintro _ _ ⟨rfl,rfl⟩
   refine xgz ?_
   rintro _ _ ⟨rfl,rfl⟩
   refine xha ?_
   rintro _ _ ⟨rfl,rfl⟩
   refine xhb ?_
   rintro _ _ ⟨rfl,rfl⟩
   exact zpn
  rintro _ _ ⟨rfl,rfl⟩
  refine AG (VA.two rfl rfl rfl rfl rfl (OpT.callP (φ:=fun v=>v=.int .i64 (near c.patience 4 64)) (fun Fr w _ _ _=>rnear_spec Fr w _ _ _) rfl) rfl rfl rfl (OpT.alloc rfl) (fun v L' h=>by obtain⟨_,rfl⟩:=h;exact Pd.st yan) (fun v L' h=>by obtain⟨d,_,rfl⟩:=h;exact Pd.st yao) ?_ ?_)
  rotate_left
  ·rintro _ _ ⟨d,rfl,rfl⟩
   refine xgy ?_
   rintro _ _ ⟨rfl,rfl⟩
   refine xgz ?_
   rintro _ _ ⟨rfl,rfl⟩
   refine xha ?_
   rintro _ _ ⟨rfl,rfl⟩
   refine xhb ?_
   rintro _ _ ⟨rfl,rfl⟩
   exact zpn
  rintro _ _ ⟨rfl,rfl⟩
  refine AG (VA.two rfl rfl rfl rfl rfl (OpT.callP (φ:=fun v=>v=.int .i64 (near c.timeout 4 64)) (fun Fr w _ _ _=>rnear_spec Fr w _ _ _) rfl) rfl rfl rfl (OpT.alloc rfl) (fun v L' h=>by obtain⟨_,rfl⟩:=h;exact Pd.st yan) (fun v L' h=>by obtain⟨d,_,rfl⟩:=h;exact Pd.st yao) ?_ ?_)
  rotate_left
  ·rintro _ _ ⟨d,rfl,rfl⟩
   refine xgz ?_
   rintro _ _ ⟨rfl,rfl⟩
   refine xha ?_
   rintro _ _ ⟨rfl,rfl⟩
   refine xhb ?_
   rintro _ _ ⟨rfl,rfl⟩
   exact zpn
  rintro _ _ ⟨rfl,rfl⟩
  refine AG (VA.two rfl rfl rfl rfl rfl (OpT.callP (φ:=fun v=>v=.int .i64 (near c.budget 0 16)) (fun Fr w _ _ _=>rnear_spec Fr w _ _ _) rfl) rfl rfl rfl (OpT.alloc rfl) (fun v L' h=>by obtain⟨_,rfl⟩:=h;exact Pd.st yan) (fun v L' h=>by obtain⟨d,_,rfl⟩:=h;exact Pd.st yao) ?_ ?_)
  rotate_left
  ·rintro _ _ ⟨d,rfl,rfl⟩
   refine xha ?_
   rintro _ _ ⟨rfl,rfl⟩
   refine xhb ?_
   rintro _ _ ⟨rfl,rfl⟩
   exact zpn
  rintro _ _ ⟨rfl,rfl⟩
  refine AG (VA.two rfl rfl rfl rfl rfl (OpT.callP (φ:=fun v=>v=.int .i64 (near c.refill 1 1099511627776)) (fun Fr w _ _ _=>rnear_spec Fr w _ _ _) rfl) rfl rfl rfl (OpT.alloc rfl) (fun v L' h=>by obtain⟨_,rfl⟩:=h;exact Pd.st yan) (fun v L' h=>by obtain⟨d,_,rfl⟩:=h;exact Pd.st yao) ?_ ?_)
  rotate_left
  ·rintro _ _ ⟨d,rfl,rfl⟩
   refine xhb ?_
   rintro _ _ ⟨rfl,rfl⟩
   exact zpn
  rintro _ _ ⟨rfl,rfl⟩
  refine xhc ?_
  refine AG (AO (OpT.alloc rfl) rfl (fun v L' h=>by obtain⟨d,_,rfl⟩:=h;exact yao) ?_)
  rintro _ _ ⟨d,rfl,rfl⟩
  refine xhd ?_
  exact xhe
 rintro d _
 have ht4:=List.length_take_le 4 c.qs
 have htl:(c.qs.take 4).length=if c.qs.length≤4 then c.qs.length else 4:=by rw[List.length_take];split<;>omega
 refine VC.meet (σ:=Option Addr×Nat) (fun _=>[(1,pV x),(2,pV r),(4,pV d)])
  (fun y=>[slH 3 1 y.1 (c.qs.take 4).length y.2 (intCs ((c.qs.take 4).map qNear)),pt d [.int .i64 (near c.nodes 1 6),.int .i64 (near c.chain 1 (near c.nodes 1 6)),.int .i64 (near c.clients 1 6),.slice y.1 (c.qs.take 4).length y.2,.int .i64 (near c.queue 1 16),.int .i64 (near c.window 1 16),.int .i64 (near c.reads 1 16),.int .i64 (near c.link 4 64),.int .i64 (near c.patience 4 64),.int .i64 (near c.timeout 4 64),.int .i64 (near c.budget 0 16),.int .i64 (near c.refill 1 1099511627776)] 24,pt r T.t24.zs 24]) (fun y=>(c.qs.take 4).length≤y.2) ?_ ?_
 ·refine CS (CG (VG (VN (VC.block ?_))))
  refine VC.loop (σ:=Nat×Option Addr×Nat) (fun y=>[(1,pV x),(2,pV r),(4,pV d),(5,.int .i64 y.1)])
   (fun y=>[slH 3 1 y.2.1 y.1 y.2.2 (intCs ((c.qs.take y.1).map qNear)),pt d [.int .i64 (near c.nodes 1 6),.int .i64 (near c.chain 1 (near c.nodes 1 6)),.int .i64 (near c.clients 1 6),.slice y.2.1 y.1 y.2.2,.int .i64 (near c.queue 1 16),.int .i64 (near c.window 1 16),.int .i64 (near c.reads 1 16),.int .i64 (near c.link 4 64),.int .i64 (near c.patience 4 64),.int .i64 (near c.timeout 4 64),.int .i64 (near c.budget 0 16),.int .i64 (near c.refill 1 1099511627776)] 24,pt r T.t24.zs 24,pt x (c.cells a cap) 24]) (FitI c.qs) (fun y=>4-y.1) (0,none,0) ⟨Nat.zero_le _,NR _⟩ sbZ (Imp.slNil Imp.refl).ent ?_
  rintro⟨i,ai,ci⟩ ⟨hi,hroom⟩
  dsimp only at hi hroom ⊢
  refine CS (CS (CG (VG (VO.ld 3 rfl rfl rfl rfl ?_))))
  refine VG (VO.split 47 rfl rfl (fun h1=>?_) (fun h1=>VG (VN (VC.condF rfl (CX ?_)))))
  rotate_left
  ·have h1:=of_decide_eq_false h1
   have hi2:i=(c.qs.take 4).length:=by rw[htl] at hi ⊢;split at hi<;>split<;>omega
   have hi3:c.qs.take i=c.qs.take 4:=by rw[hi2,List.length_take];rw[List.take_eq_take_iff];omega
   refine⟨(ai,ci),by rw[←hi2];exact hroom,sbZ,?_⟩
   dsimp only
   rw[←hi2,←hi3]
   exact(Imp.app (L:=[_,_,_]) (M:=[_,_,_]) Imp.refl Imp.nil).ent
  have h1:=of_decide_eq_true h1
  refine VG (VN (CP rfl (fun h2=>CK ?_) (fun h2=>CX ?_)))
  rotate_left
  ·have hi2:i=(c.qs.take 4).length:=by rw[htl] at hi ⊢;split at hi<;>split<;>omega
   have hi3:c.qs.take i=c.qs.take 4:=by rw[hi2,List.length_take];rw[List.take_eq_take_iff];omega
   refine⟨(ai,ci),by rw[←hi2];exact hroom,sbZ,?_⟩
   dsimp only
   rw[←hi2,←hi3]
   exact(Imp.app (L:=[_,_,_]) (M:=[_,_,_]) Imp.refl Imp.nil).ent
  have hiq:i<c.qs.length:=by omega
  obtain⟨qb,qo,hqa,hFq,hcq⟩:=hq.at_ (fun e=>by rw[e] at hiq;simp at hiq)
  have hy:=GE hiq
  generalize c.qs[i]=y at hy
  have hsl:some (Value.slice a c.qs.length cap)=some (Value.slice (some ⟨qb,qo,none⟩) c.qs.length cap):=by rw[hqa]
  have htk:c.qs.take (i+1)=c.qs.take i ++ [y]:=by rw[List.take_add_one,hy];rfl
  have hcell:w.cell? ⟨qb,qo+i*1,none⟩=some (.int .i64 y):=by rw[Nat.mul_one];exact hcq i y hy
  have PQ:∀{L:List HP},RdL (⟨Tryz.prog,tab,tabOk,74,Fr,w⟩:Cx) L T.t3 qb (qo+i*T.t3.size) (.int .i64 y):=RdL.rd hFq hcell
  refine CS (VC.block (CD (ts 0 7 (.only 7 (.only 8 (.only 9 (.take 10 (.only 11 .nil)))))) ym yr ?_))
  refine xfe ?_
  refine AG (AI rfl (light_idx i hsl rfl rfl rfl rfl rfl hiq) ?_)
  refine AG (VA.load rfl rfl rfl (RdL.rd (v:=.int .i64 y) hFq hcell) ?_)
  refine AG (VA.callP (φ:=fun v=>v=.int .i64 (qNear y)) (fun Fr w _ _ _=>rnear_spec Fr w _ _ _) rfl rfl (by(try refine Pd.st ?_);(repeat(first|exact Pd.nil|exact Pd.fnil|refine Pd.inner ?_|refine Pd.skip yr ?_|refine zf (zo 0 rfl rfl) ?_|refine zf (zo 1 rfl rfl) ?_|refine zf (zo 2 rfl rfl) ?_|refine zf (zo 3 rfl rfl) ?_|refine zf (zm 0 rfl rfl) ?_|refine zf (zm 1 rfl rfl) ?_|refine zf (zm 2 rfl rfl) ?_|refine zf (zm 3 rfl rfl) ?_|refine zf (RdL.blk PQ rfl) ?_|refine zf (PQ) ?_|refine zc (zo 0 rfl rfl) ?_|refine zc (zo 1 rfl rfl) ?_|refine zc (zo 2 rfl rfl) ?_|refine zc (zo 3 rfl rfl) ?_|refine zc (zm 0 rfl rfl) ?_|refine zc (zm 1 rfl rfl) ?_|refine zc (zm 2 rfl rfl) ?_|refine zc (zm 3 rfl rfl) ?_|refine zc (RdL.blk PQ rfl) ?_|refine zc (PQ) ?_))) ?_)
  rintro _ rfl
  refine AG (AO (OpT.buildSlice (n:=1) (pv:=[(0,.int .i64 (qNear y))]) (cells:=[.int .i64 (qNear y)]) rfl rfl rfl rfl yo rfl) rfl ?_ ?_)
  ·rintro _ _ ⟨nb,rfl,rfl⟩
   exact yap
  rintro _ _ ⟨nb,rfl,rfl⟩
  refine AG (AO (OpT.append (m:=1) (news:=[.int .i64 (qNear y)]) 1 rfl rfl rfl rfl rfl rfl rfl (RdRow.pt 0 rfl rfl rfl) rfl (by show(i+1)*8≤_;omega) yd) rfl ?_ ?_)
  ·rintro _ _ ⟨a2,c2,rfl,hc2,rfl⟩
   exact yap
  rintro _ _ ⟨a2,c2,rfl,hc2,rfl⟩
  refine xfg ?_
  refine AG (VA.st 2 rfl rfl rfl rfl rfl yal rfl rfl yap (AG (AN ?_)))
  refine zor ?_
  refine⟨(i+1,a2,c2),⟨by rw[htl];split<;>omega,hc2⟩,by dsimp only;omega,sbZ,?_⟩
  dsimp only
  rw[htk]
  have e:intCs ((c.qs.take i ++ [y]).map qNear)=intCs ((c.qs.take i).map qNear) ++ [.int .i64 (qNear y)]:=by simp[intCs]
  rw[e]
  exact(Imp.cons Imp.tl).ent
 rintro⟨ai,ci⟩ hroom
 dsimp only at hroom ⊢
 have hf1:=qFit_len c.qs
 refine VC.meet (σ:=Option Addr×Nat) (fun _=>[(2,pV r),(4,pV d)])
  (fun y=>[intH y.1 y.2 (qFit c.qs),pt d ((fitM c).cells y.1 y.2) 24,pt r T.t24.zs 24]) (fun y=>(qFit c.qs).length≤y.2∧AdOk y.1) ?_ ?_
 ·refine CS (CG (VG (VO.ld 1 rfl rfl rfl rfl (VG (VN ?_)))))
  refine CE rfl (fun hz=>?_) (fun hz=>?_)
  ·have hz:c.qs.take 4=[]:=List.eq_nil_of_length_eq_zero yd
   have hqf:qFit c.qs=[96]:=by unfold qFit qFirst;rw[if_pos hz];rfl
   refine CG (VG (VO.ld 1 rfl rfl rfl rfl ?_))
   refine VG (VO.buildSlice (n:=1) (pv:=[(0,.int .i64 96)]) [.int .i64 96] rfl rfl rfl rfl yo rfl fun nb=>?_)
   refine VG (VO.append (m:=1) (news:=[.int .i64 96]) 1 rfl rfl rfl rfl rfl rfl rfl (RdRow.pt 0 rfl rfl rfl) rfl (by show((c.qs.take 4).length+1)*8≤_;omega) yd fun a2 c2 hc2=>?_)
   refine VO.opn 0 rfl (HOpn.adok _ _ _ _ _ _) fun _ had=>?_
   refine VG (VO.st 2 rfl rfl rfl rfl yal rfl rfl (VG (VN ?_)))
   have e1:intCs ((c.qs.take 4).map qNear) ++ [.int .i64 96]=intCs (qFit c.qs):=by rw[hqf,hz];rfl
   have e2:(c.qs.take 4).length+1=(qFit c.qs).length:=by rw[hqf,hz];rfl
   refine⟨(a2,c2),⟨by rw[←e2];exact hc2,had⟩,sbZ,?_⟩
   rw[e1,e2]
   exact(Imp.cons Imp.tl).ent
  ·have hz:¬c.qs.take 4=[]:=fun e=>hz yai
   have hqf:qFit c.qs=(c.qs.take 4).map qNear:=by unfold qFit qFirst;rw[if_neg hz]
   refine VC.opn 0 rfl (HOpn.adok _ _ _ _ _ _) fun _ had=>CK ?_
   have e1:intCs ((c.qs.take 4).map qNear)=intCs (qFit c.qs):=by rw[hqf]
   have e2:(c.qs.take 4).length=(qFit c.qs).length:=by rw[hqf,List.length_map]
   refine⟨(ai,ci),⟨by rw[←e2];exact hroom,had⟩,sbZ,?_⟩
   rw[e1,e2]
   exact ER
 rintro⟨af,cf⟩ ⟨hcf,haf⟩
 dsimp only at hcf haf ⊢
 refine CS (CG (VG (VL 1 ((fitM c).cells af cf) rfl rfl rfl rfl ?_)))
 refine VG (VT (vs:=(fitM c).cells af cf) (cs':=(fitM c).cells af cf) 2 rfl rfl rfl rfl (NR _) rfl rfl rfl (VG (VN ?_)))
 exact CR (Ret.cell 2 rfl rfl rfl (RdL.many 2 rfl rfl) (L':=[intH af cf (qFit c.qs)]) (Imp.app (L:=[_]) (M:=[_]) Imp.refl Imp.nil).ent ⟨af,cf,haf,hcf,rfl,rfl⟩)
end Conf
namespace Adm
open Go Vg T Api Sched Conf
attribute [local irreducible] VO VC VA
abbrev MkM:=Int×Int
def aheadM(t u:MkM):Bool:=decide (t.1<u.1)||((t.1 == u.1)&&decide (t.2<u.2))
def numM(n:Int):Bool:=decide (1≤n)&&decide (n≤1099511627776)
structure AdmM where
 sch:SchM
 clients:Int
 marks:List MkM
 waits:List Int
def AdmM.has(A:AdmM)(k:Int):Bool:=decide (0≤k∧k<A.clients)
def AdmM.mark(A:AdmM)(k:Int):MkM:=(A.marks[k.toNat]?).getD (0,0)
def AdmM.wt(A:AdmM)(k:Int):Int:=(A.waits[k.toNat]?).getD 0
def AdmM.barred(A:AdmM)(k s t:Int):Bool:=A.has k && !aheadM (A.mark k) (s,t)
def AdmM.setMark(A:AdmM)(k:Int)(m:MkM):AdmM:={ A with marks:=A.marks.set k.toNat m }
def AdmM.setWt(A:AdmM)(k:Int)(n:Int):AdmM:={ A with waits:=A.waits.set k.toNat n }
def AdmM.barF(A:AdmM)(k s t:Int):AdmM:=if aheadM (A.mark k) (s,t) then A.setMark k (s,t) else A
def AdmM.barM(A:AdmM)(k s t:Int):Int×AdmM:=if A.has k&&numM s&&numM t then (0,A.barF k s t) else (2,A)
structure AdmM.Wf(A:AdmM):Prop where
 sch:A.sch.Wf
 c0:1≤A.clients
 c1:A.clients≤6
 marks:A.marks.length=6
 waits:A.waits.length=6
def markCs(m:MkM):List Value:=[.int .i64 m.1,.int .i64 m.2]
theorem markCs_len(m:MkM):(markCs m).length=2:=rfl
def admCs(A:AdmM)(sp:Nat):List Value:=.pointer (some ⟨sp,0,none⟩) :: .int .i64 A.clients :: .int .i64 A.sch.cls.length::(flat markCs A.marks++intCs A.waits)
def admL(p:Nat)(A:AdmM)(sp:Nat):List HP:=[pt p (admCs A sp) 181,schH sp A.sch]
def admH(p:Nat)(A:AdmM):HP:=hex fun sp=>hsep (hpure A.Wf::admL p A sp)
theorem HOpn.adm(p:Nat)(A:AdmM):HOpn (admH p A) (fun _=>A.Wf) (fun sp=>admL p A sp):=by
 rintro w ids ⟨s,h⟩ hn
 obtain⟨F,G,rfl,⟨rfl,h1⟩,h2⟩:=h
 exact xfs
theorem adm_shut{p:Nat}{A:AdmM}{L:List HP}(sp:Nat)(hs:A.Wf)(h:Imp L (admL p A sp)):Imp L [admH p A]:=
 Imp.ex sp (Imp.sep (Imp.trans h (Imp.of_eq (List.append_nil _).symm |>.trans (Imp.pure hs Imp.refl))))
structure AdmIn(Fr:Nat→Prop)(w:World)(p:Nat)(A:AdmM)(sp:Nat):Prop where
 wf:A.Wf
 at0:Blk Fr w p (admCs A sp)
 sch:SatIn Fr [schH sp A.sch] w
theorem AdmIn.of{Fr:Nat→Prop}{w:World}{p:Nat}{A:AdmM}(h:SatIn Fr [admH p A] w):∃sp,AdmIn Fr w p A sp:=by
 obtain⟨s,h⟩:=h.ex
 have h:=h.sep
 exact⟨s,h.pure 0 rfl,h.blk 1 rfl,h.at_ 2 rfl⟩
theorem mark_row{A:AdmM}(h:A.Wf){sp k:Nat}(hk:k<6):((admCs A sp).drop (0+3+k*2)).take 2=markCs (A.mark k):=by
 have hk2:k<A.marks.length:=by rw[h.marks];exact hk
 have h1:A.marks[k]?=some (A.mark k):=by rw[AdmM.mark,Int.toNat_natCast,GE hk2];rfl
 have:=flat_row markCs_len h1 (intCs A.waits)
 rw[←this,show 0+3+k*2=k*2+1+1+1 from by omega]
 rfl
theorem mark_set{A:AdmM}(h:A.Wf){sp k:Nat}(hk:k<6)(m:MkM):wrC (admCs A sp) (0+3+k*2) (markCs m)=admCs (A.setMark k m) sp:=by
 have hk2:k<A.marks.length:=by rw[h.marks];exact hk
 have:=flat_set markCs_len m (intCs A.waits) hk2
 show wrC (_::_::_::(flat markCs A.marks++intCs A.waits)) (0+3+k*2) (markCs m)=_::_::_::(flat markCs (A.marks.set ((k:Int).toNat) m)++intCs A.waits)
 rw[Int.toNat_natCast,←this,show 0+3+k*2=k*2+1+1+1 from by omega]
 simp only[wrC,List.take_succ_cons,List.cons_append,markCs_len]
 rw[show k*2+1+1+1+2=k*2+2+1+1+1 from by omega]
 simp only[List.drop_succ_cons]
 rfl
theorem admCs_len{A:AdmM}(h:A.Wf)(sp:Nat):(admCs A sp).length=21:=by
 simp[admCs,flat_len markCs_len,h.marks,intCs_len,h.waits]
theorem wt_cell{A:AdmM}(h:A.Wf){sp k:Nat}(hk:k<6):(admCs A sp)[0+15+k*1]?=some (.int .i64 (A.wt k)):=by
 have hk2:k<A.waits.length:=by rw[h.waits];exact hk
 have h1:A.waits[k]?=some (A.wt k):=by rw[AdmM.wt,Int.toNat_natCast,GE hk2];rfl
 rw[show 0+15+k*1=(12+k)+1+1+1 from by omega]
 simp only[admCs,List.getElem?_cons_succ]
 rw[List.getElem?_append_right yaq,flat_len markCs_len,h.marks,show 12+k-6*2=k from by omega,intCs,List.getElem?_map,h1];rfl
theorem wt_set{A:AdmM}(h:A.Wf){sp k:Nat}(hk:k<6)(n:Int):(admCs A sp).set (0+15+k*1) (.int .i64 n)=admCs (A.setWt k n) sp:=by
 rw[show 0+15+k*1=(12+k)+1+1+1 from by omega]
 simp only[admCs,List.set_cons_succ,AdmM.setWt,Int.toNat_natCast]
 rw[List.set_append_right _ _ yaq,flat_len markCs_len,h.marks,show 12+k-6*2=k from by omega]
 simp[intCs,List.map_set]
theorem AdmM.Wf.setMark{A:AdmM}(h:A.Wf)(k:Int)(m:MkM):(A.setMark k m).Wf:=⟨h.sch,h.c0,h.c1,by simpa[AdmM.setMark] using h.marks,h.waits⟩
theorem AdmM.Wf.setWt{A:AdmM}(h:A.Wf)(k:Int)(n:Int):(A.setWt k n).Wf:=⟨h.sch,h.c0,h.c1,h.marks,by simpa[AdmM.setWt] using h.waits⟩
theorem AdmM.Wf.barF{A:AdmM}(h:A.Wf)(k s t:Int):(A.barF k s t).Wf:=by
 unfold AdmM.barF;split
 ·exact h.setMark k _
 ·exact h
theorem AdmM.Wf.barM{A:AdmM}(h:A.Wf)(k s t:Int):(A.barM k s t).2.Wf:=by
 unfold AdmM.barM;split
 ·exact h.barF k s t
 ·exact h
theorem none_spec{p:Nat}{a:Addr}{cs:List Value}(h:Blk Fr w p (.pointer (some a)::cs)):Tri Tryz.prog 139 [.pointer (some ⟨p,0,none⟩)] Fr w [] (fun v L=>v=.bool false∧L=[]):=by
 refine TF 12 Tryz.func139 rfl ym tabOk rfl rfl ?_
 refine xdf ?_
 refine VG (VO.split 5 rfl rfl (fun h=>by cases h) (fun _=>?_))
 refine xej ?_
 exact xep
theorem has_spec{p sp:Nat}{A:AdmM}(k:Int)(h:Blk Fr w p (admCs A sp)):Tri Tryz.prog 231 [.pointer (some ⟨p,0,none⟩),.int .i64 k] Fr w [] (fun v L=>v=.bool (A.has k)∧L=[]):=by
 refine TF 20 Tryz.func231 rfl ym tabOk rfl rfl ?_
 refine xdf ?_
 refine xfb ?_
 refine VG (VY 8 true rfl rfl ?_)
 refine VG (VO.split 12 rfl rfl (fun h2=>?_) (fun h2=>?_))
 ·have h2:=of_decide_eq_true h2
  refine xej ?_
  exact CR (Ret.bool 4 rfl rfl (by simp[AdmM.has,h2]) ER ⟨rfl,rfl⟩)
 ·have h2:=of_decide_eq_false h2
  refine xdf ?_
  exact CR (Ret.bool 4 rfl rfl (by simp[AdmM.has,h2]) ER ⟨rfl,rfl⟩)
theorem number_spec(n:Int):Tri Tryz.prog 232 [.int .i64 n] Fr w [] (fun v L=>v=.bool (numM n)∧L=[]):=by
 refine TF 9 Tryz.func232 rfl ym tabOk rfl rfl ?_
 refine xdf ?_
 refine VG (VO.split 5 rfl rfl (fun h2=>?_) (fun h2=>?_))
 ·have h2:=of_decide_eq_true h2
  refine xdf ?_
  exact CR (Ret.bool 2 rfl rfl (by simp[numM,h2]) ER ⟨rfl,rfl⟩)
 ·have h2:=of_decide_eq_false h2
  refine xdf ?_
  exact CR (Ret.bool 2 rfl rfl (by simp[numM,h2]) ER ⟨rfl,rfl⟩)
theorem ahead_spec(t u:MkM):Tri Tryz.prog 233 [.agg (markCs t).toArray,.agg (markCs u).toArray] Fr w [] (fun v L=>v=.bool (aheadM t u)∧L=[]):=by
 refine TF 24 Tryz.func233 rfl ym tabOk rfl rfl ?_
 refine CS (CG (VG (VB (vs:=markCs t) rfl fun b1=>VG (VB (vs:=markCs u) rfl fun b2=>VG (VN ?_)))))
 refine xds ?_
 refine VG (VO.split 10 rfl rfl (fun h1=>?_) (fun h1=>?_))
 ·refine VG (VO.offU rfl rfl rfl (VG (VO.offU rfl rfl rfl (VG (VO.offU rfl rfl rfl (VG (VO.offU rfl rfl rfl (VG (VO.offU rfl rfl rfl ?_)))))))))
  refine xdf ?_
  exact CR (Ret.bool 4 rfl rfl (by simp only[aheadM,h1];rfl) Imp.nil.ent ⟨rfl,rfl⟩)
 ·refine xds ?_
  refine VG (VO.split 16 rfl rfl (fun h2=>?_) (fun h2=>?_))
  ·refine xds ?_
   exact CR (Ret.bool 4 rfl rfl (by simp only[aheadM,h1,h2,Bool.false_or,Bool.true_and]) Imp.nil.ent ⟨rfl,rfl⟩)
  ·refine xds ?_
   exact CR (Ret.bool 4 rfl rfl (by simp only[aheadM,h1,h2,Bool.false_or,Bool.false_and]) Imp.nil.ent ⟨rfl,rfl⟩)
theorem barred_spec{p:Nat}{A:AdmM}(k s t:Int)(h:SatIn Fr [admH p A] w):Tri Tryz.prog 282 [.pointer (some ⟨p,0,none⟩),.int .i64 k,.int .i64 s,.int .i64 t] Fr w [] (fun v L=>v=.bool (A.barred k s t)∧L=[]):=by
 obtain⟨sp,h⟩:=AdmIn.of h
 have hb:=h.at0
 refine TF 25 Tryz.func282 rfl ym tabOk rfl rfl ?_
 refine xdf ?_
 refine VG (VV (fun Fr w hF hs _=>has_spec Fr w k (hb.of hF hs)) rfl ?_)
 refine VG (VO.split 12 rfl rfl (fun h1=>?_) (fun h1=>?_))
 ·have hk:=of_decide_eq_true h1
  obtain⟨n,rfl⟩:=Int.eq_ofNat_of_zero_le hk.1
  have hn:n<6:=by have:=h.wf.c1;omega
  refine VG (VI (light_idxA n rfl rfl rfl rfl rfl rfl hn) ?_)
  refine VG (VO.load rfl rfl (v:=.agg (markCs (A.mark n)).toArray) (RdL.blkA hb (mark_row h.wf hn)) ?_)
  refine xhf ?_
  refine VG (VO.callV (fun Fr w=>ahead_spec Fr w (A.mark n) (s,t)) rfl ?_)
  refine xdf ?_
  exact CR (Ret.bool 8 rfl rfl (by simp only[AdmM.barred,h1,Bool.true_and]) ER ⟨rfl,rfl⟩)
 ·refine xdf ?_
  exact CR (Ret.bool 8 rfl rfl (by simp only[AdmM.barred,h1,Bool.false_and]) ER ⟨rfl,rfl⟩)
theorem bar_spec(p:Nat)(A:AdmM)(k s t:Int):Tri Tryz.prog 167 [.pointer (some ⟨p,0,none⟩),.int .i64 k,.int .i64 s,.int .i64 t] Fr w [admH p A] (fun v L=>v=.int .i64 (A.barM k s t).1∧L=[admH p (A.barM k s t).2]):=by
 refine TF 45 Tryz.func167 rfl ym tabOk rfl rfl ?_
 refine VC.opn 0 rfl (HOpn.adm p A) fun sp h=>?_
 refine CN (L':=admL p A sp) (Imp.of_eq (List.append_nil _)).ent ?_
 have out:∀{X:Cx},Ent X (admL p A sp) [admH p A]:=fun {X}=>(adm_shut sp h Imp.refl).ent
 refine xdf ?_
 refine VG (VV (fun Fr w hF _ hs=>none_spec Fr w (hs.blk 0 rfl)) rfl (VG (VN (VC.condF rfl ?_))))
 refine xdf ?_
 refine VG (VV (fun Fr w hF _ hs=>has_spec Fr w k (hs.blk 0 rfl)) rfl (VG (VO.split 18 rfl rfl (fun h1=>?_) (fun h1=>?_))))
 ·have h1:A.has k=false:=by simpa using h1
  have e:A.barM k s t=(2,A):=by simp[AdmM.barM,h1]
  refine VG (VY 23 true rfl rfl (VG (VN (VC.condT rfl ?_))))
  refine xdf ?_
  exact xhg
 have h1:A.has k=true:=by simpa using h1
 refine VG (VO.callV (fun Fr w=>number_spec Fr w s) rfl (VG (VO.split 23 rfl rfl (fun h2=>?_) (fun h2=>?_))))
 ·have h2:numM s=false:=by simpa using h2
  have e:A.barM k s t=(2,A):=by simp[AdmM.barM,h2]
  refine VG (VN (VC.condT rfl ?_))
  refine xdf ?_
  exact xhg
 have h2:numM s=true:=by simpa using h2
 refine VG (VO.callV (fun Fr w=>number_spec Fr w t) rfl (VG (VN ?_)))
 refine VC.condN rfl (fun h3=>?_) (fun h3=>CK ?_)
 ·have e:A.barM k s t=(2,A):=by simp[AdmM.barM,h3]
  refine xdf ?_
  exact xhg
 have e:A.barM k s t=(0,A.barF k s t):=by simp[AdmM.barM,h1,h2,h3]
 have hk:=of_decide_eq_true h1
 obtain⟨n,rfl⟩:=Int.eq_ofNat_of_zero_le hk.1
 have hn:n<6:=by have:=h.c1;omega
 have hlen:=admCs_len h sp
 refine xdf ?_
 refine xhf ?_
 refine VG (VO.alloc rfl fun m=>VG (VT (vs:=markCs (s,t)) (cs':=markCs (s,t)) 0 rfl rfl rfl rfl (NR _) rfl rfl rfl (VG (VN ?_))))
 refine CS (CS (CD (ts 0 7 (.only 7 .nil)) ym yr ?_))
 refine AG (AI rfl (light_idxA n rfl rfl rfl rfl rfl rfl hn) ?_)
 refine AG (VA.ldA 1 (markCs (A.mark n)) rfl rfl rfl rfl (mark_row h hn) ?_)
 refine AG (VA.ldA 0 (markCs (s,t)) rfl rfl rfl rfl rfl ?_)
 refine AG (VA.callP (φ:=fun v=>v=.bool (aheadM (A.mark n) (s,t))) (fun Fr w _ _ _=>ahead_spec Fr w _ _) rfl rfl (by(try refine Pd.st ?_);(repeat(first|exact Pd.nil|exact Pd.fnil|refine Pd.inner ?_|refine Pd.skip yr ?_|refine zf (zo 0 rfl rfl) ?_|refine zf (zo 1 rfl rfl) ?_|refine zf (zm 0 rfl rfl) ?_|refine zf (zm 1 rfl rfl) ?_|refine zf (RdL.blk (RdL.many 1 rfl (mark_row h hn)) rfl) ?_|refine zf ((RdL.many 1 rfl (mark_row h hn))) ?_|refine zc (zo 0 rfl rfl) ?_|refine zc (zo 1 rfl rfl) ?_|refine zc (zm 0 rfl rfl) ?_|refine zc (zm 1 rfl rfl) ?_|refine zc (RdL.blk (RdL.many 1 rfl (mark_row h hn)) rfl) ?_|refine zc ((RdL.many 1 rfl (mark_row h hn))) ?_))) ?_)
 rintro _ rfl
 refine xeh ?_
 refine CC rfl (fun h4=>?_) (fun h4=>CK ?_)
 ·have e2:A.barF n s t=A.setMark n (s,t):=by unfold AdmM.barF;rw[if_pos h4]
  refine xhh ?_
  refine AG (VA.ldA 0 (markCs (s,t)) rfl rfl rfl rfl rfl ?_)
  refine AG (AI rfl (light_idxA n rfl rfl rfl rfl rfl rfl hn) ?_)
  refine AG (AT (vs:=markCs (s,t)) (cs':=admCs (A.setMark n (s,t)) sp) 1 rfl rfl rfl rfl rfl (by rw[hlen];show 0+3+n*2+2≤21;omega) (mark_set h hn (s,t)) rfl rfl yu (AG (AN ?_)))
  refine xdf ?_
  exact CR (Ret.int 8 rfl rfl yaj (L':=[admH p (A.setMark n (s,t))]) (Imp.trans Imp.tl (adm_shut sp (h.setMark n _) Imp.refl)).ent ⟨rfl,by rw[e,e2]⟩)
 ·have e2:A.barF n s t=A:=by unfold AdmM.barF;rw[if_neg (by rw[h4];simp)]
  refine xdf ?_
  exact CR (Ret.int 8 rfl rfl yaj (L':=[admH p A]) (Imp.trans Imp.tl (adm_shut sp h Imp.refl)).ent ⟨rfl,by rw[e,e2]⟩)
end Adm
namespace Adm
open Go Vg T Api Sched Conf
attribute [local irreducible] VO VC VA
def readsM(o:OpM):Bool:=(o.kind == 1)&&(opCheck o == 0)
theorem reads_spec(o:OpM):Tri Tryz.prog 188 [.agg o.cells.toArray] Fr w [] (fun v L=>v=.bool (readsM o)∧L=[]):=by
 refine TF 11 Tryz.func188 rfl ym tabOk rfl rfl ?_
 refine CS (CG (VG (VB (vs:=o.cells) rfl fun b=>VG (VN ?_))))
 refine xdf ?_
 refine VG (VO.split 6 rfl rfl (fun h1=>?_) (fun h1=>?_))
 ·refine VG (VL 0 o.cells rfl rfl rfl rfl ?_)
  refine xex ?_
  refine xdf ?_
  exact CR (Ret.bool 2 rfl rfl (by simp only[readsM,h1,Bool.true_and]) Imp.nil.ent ⟨rfl,rfl⟩)
 ·refine xdf ?_
  exact CR (Ret.bool 2 rfl rfl (by simp only[readsM,h1,Bool.false_and]) Imp.nil.ent ⟨rfl,rfl⟩)
def AdmM.may(A:AdmM)(f:FrameM):Bool:=A.has f.client&&(f.kind == 1)&&numM f.seq&&numM f.try_&&decide (0≤f.cls)&&decide (f.cls<A.sch.cls.length)&&decide (0≤f.deadline)&&decide (f.deadline≤1099511627776)&&(opCheck f.op == 0) && !readsM f.op
theorem may_spec{p:Nat}{A:AdmM}(f:FM)(h:SatIn Fr [admH p A] w):Tri Tryz.prog 281 [.pointer (some ⟨p,0,none⟩),.agg (fmc f).toArray] Fr w [] (fun v L=>v=.bool (A.may f.1)∧L=[]):=by
 obtain⟨sp,h⟩:=AdmIn.of h
 have hb:=h.at0
 refine TF 60 Tryz.func281 rfl ym tabOk rfl rfl ?_
 refine CS (CG (VG (VB (vs:=fmc f) rfl fun b=>VG (VN ?_))))
 refine VC.meet (σ:=Bool) (fun b=>[(4,.bool b)]) (fun _=>[]) (fun b=>b=A.may f.1) ?_ ?_
 rotate_left
 ·rintro b rfl
  exact CR (Ret.bool 4 rfl rfl rfl ER ⟨rfl,rfl⟩)
 refine CD (ts 0 3 (.only 3 (ts 4 8 (.only 12 (ts 13 4 (.only 17 (ts 18 28 (.only 46 (ts 47 5 (.only 52 (ts 53 3 .nil))))))))))) ym yr ?_
 refine xeh ?_
 refine AG (VA.callP (φ:=fun v=>v=.bool (A.has f.1.client)) (fun Fr w hF hs _=>has_spec Fr w f.1.client (hb.of hF hs)) rfl rfl yu ?_)
 rintro _ rfl
 refine xhi ?_
 refine AG (VA.split 9 rfl rfl (fun h0=>?_) (fun h0=>?_))
 rotate_left
 ·refine AG (AY 14 false rfl rfl ?_)
  refine xhj ?_
  refine AG (AY 19 false rfl rfl ?_)
  refine xhj ?_
  refine zpv ?_
  refine xhk ?_
  refine zqi ?_
  exact⟨false,(by show false=AdmM.may A f.1;rw[AdmM.may];simp only[show(A.has f.1.client)=false from h0,Bool.and_false,Bool.false_and]),sbZ,Imp.nil.ent⟩
 refine xhi ?_
 refine AG (VA.split 14 rfl rfl (fun h1=>?_) (fun h1=>?_))
 rotate_left
 ·refine xhj ?_
  refine AG (AY 19 false rfl rfl ?_)
  refine xhj ?_
  refine zpv ?_
  refine xhk ?_
  refine zqi ?_
  exact⟨false,(by show false=AdmM.may A f.1;rw[AdmM.may];simp only[show(f.1.kind == 1)=false from h1,Bool.and_false,Bool.false_and]),sbZ,Imp.nil.ent⟩
 refine xhi ?_
 refine AG (VA.callP (φ:=fun v=>v=.bool (numM f.1.seq)) (fun Fr w _ _ _=>number_spec Fr w _) rfl rfl yar ?_)
 rintro _ rfl
 refine xhi ?_
 refine AG (VA.split 19 rfl rfl (fun h2=>?_) (fun h2=>?_))
 rotate_left
 ·refine xhj ?_
  refine zpv ?_
  refine xhk ?_
  refine zqi ?_
  exact⟨false,(by show false=AdmM.may A f.1;rw[AdmM.may];simp only[show(numM f.1.seq)=false from h2,Bool.and_false,Bool.false_and]),sbZ,Imp.nil.ent⟩
 refine xhi ?_
 refine AG (VA.callP (φ:=fun v=>v=.bool (numM f.1.try_)) (fun Fr w _ _ _=>number_spec Fr w _) rfl rfl yar ?_)
 rintro _ rfl
 refine xhi ?_
 refine AG (VA.split 24 rfl rfl (fun h3=>?_) (fun h3=>?_))
 rotate_left
 ·refine AG (AY 29 false rfl rfl ?_)
  refine xhk ?_
  refine zqi ?_
  exact⟨false,(by show false=AdmM.may A f.1;rw[AdmM.may];simp only[show(numM f.1.try_)=false from h3,Bool.and_false,Bool.false_and]),sbZ,Imp.nil.ent⟩
 refine xhi ?_
 refine AG (VA.split 29 rfl rfl (fun h4=>?_) (fun h4=>?_))
 rotate_left
 ·refine xhk ?_
  refine zqi ?_
  exact⟨false,(by show false=AdmM.may A f.1;rw[AdmM.may];simp only[show(decide (0≤f.1.cls))=false from h4,Bool.and_false,Bool.false_and]),sbZ,Imp.nil.ent⟩
 refine xhi ?_
 refine AG (VA.split 38 rfl rfl (fun h5=>?_) (fun h5=>?_))
 rotate_left
 ·refine zqi ?_
  exact⟨false,(by show false=AdmM.may A f.1;rw[AdmM.may];simp only[show(decide (f.1.cls<A.sch.cls.length))=false from h5,Bool.and_false,Bool.false_and]),sbZ,Imp.nil.ent⟩
 refine xhi ?_
 refine AG (VA.split 43 rfl rfl (fun h6=>?_) (fun h6=>?_))
 rotate_left
 ·refine zpx ?_
  exact⟨false,(by show false=AdmM.may A f.1;rw[AdmM.may];simp only[show(decide (0≤f.1.deadline))=false from h6,Bool.and_false,Bool.false_and]),sbZ,Imp.nil.ent⟩
 refine xhi ?_
 refine AG (VA.split 48 rfl rfl (fun h7=>?_) (fun h7=>?_))
 rotate_left
 ·refine zpu ?_
  exact⟨false,(by show false=AdmM.may A f.1;rw[AdmM.may];simp only[show(decide (f.1.deadline≤1099511627776))=false from h7,Bool.and_false,Bool.false_and]),sbZ,Imp.nil.ent⟩
 refine xhi ?_
 refine AG (VA.ldA 0 f.1.op.cells rfl rfl rfl rfl rfl ?_)
 refine AG (VA.callP (φ:=fun v=>v=.int .i64 (opCheck f.1.op)) (fun Fr w _ _ _=>check_spec Fr w _) rfl rfl yar ?_)
 rintro _ rfl
 refine xhi ?_
 refine AG (VA.split 54 rfl rfl (fun h8=>?_) (fun h8=>?_))
 rotate_left
 ·refine zpj ?_
  exact⟨false,(by show false=AdmM.may A f.1;rw[AdmM.may];simp only[show(opCheck f.1.op == 0)=false from h8,Bool.and_false,Bool.false_and]),sbZ,Imp.nil.ent⟩
 refine xhi ?_
 refine AG (VA.ldA 0 f.1.op.cells rfl rfl rfl rfl rfl ?_)
 refine AG (VA.callP (φ:=fun v=>v=.bool (readsM f.1.op)) (fun Fr w _ _ _=>reads_spec Fr w _) rfl rfl yar ?_)
 rintro _ rfl
 refine xeh ?_
 refine⟨!readsM f.1.op,?_,sbZ,Imp.nil.ent⟩
 show(!readsM f.1.op)=AdmM.may A f.1
 rw[AdmM.may]
 simp only[show(A.has f.1.client)=true from h0,show(f.1.kind == 1)=true from h1,show(numM f.1.seq)=true from h2,show(numM f.1.try_)=true from h3,show(decide (0≤f.1.cls))=true from h4,show(decide (f.1.cls<A.sch.cls.length))=true from h5,show(decide (0≤f.1.deadline))=true from h6,show(decide (f.1.deadline≤1099511627776))=true from h7,show(opCheck f.1.op == 0)=true from h8,Bool.true_and,Bool.and_true]
end Adm
namespace Adm
open Go Vg T Api Sched Conf
attribute [local irreducible] VO VC VA
theorem adm_in{Fr:Nat→Prop}{w:World}{p sp:Nat}{A:AdmM}(h:A.Wf)(hs:SatIn Fr (admL p A sp) w):SatIn Fr [admH p A] w:=SatIn.shut (φ:=fun _=>A.Wf) (Ls:=fun sp=>admL p A sp) sp h hs
theorem push_len(S:SchM)(f:FrameM):(S.pushM f).2.cls.length=S.cls.length:=by
 unfold SchM.pushM
 split
 ·rfl
 ·split
  ·rfl
  ·split
   ·simp[SchM.setC]
   ·rfl
def newA(c:ConfM):AdmM:=⟨SchM.new c.qs c.queue,c.clients,List.replicate 6 (0,0),List.replicate 6 0⟩
theorem conf_new{c:ConfM}(h:c=fitM c):newOk c.qs c.queue=true∧1≤c.clients∧c.clients≤6:=by
 have h1:c.qs=qFit c.qs:=congrArg ConfM.qs h
 have h2:c.queue=near c.queue 1 16:=congrArg ConfM.queue h
 have h3:c.clients=near c.clients 1 6:=congrArg ConfM.clients h
 have h4:=qFit_len c.qs
 have h5:=near_in (x:=c.queue) (lo:=1) (hi:=16) yd
 have h6:=near_in (x:=c.clients) (lo:=1) (hi:=6) yd
 rw[←h1] at h4
 rw[←h2] at h5
 rw[←h3] at h6
 refine⟨?_,h6⟩
 have h7:c.qs.all quantumOk=true:=by
  rw[List.all_eq_true]
  intro q hq
  rw[h1] at hq
  obtain⟨x,_,rfl⟩:=List.mem_map.1 hq
  have:=near_in (x:=x) (lo:=96) (hi:=65536) yd
  simp[quantumOk,qNear,this]
 simp[newOk,h4,h5,h7]
theorem newA_wf{c:ConfM}(h:c=fitM c):(newA c).Wf:=by
 obtain⟨h1,h2,h3⟩:=conf_new h
 exact⟨SchM.new_wf h1,h2,h3,rfl,rfl⟩
theorem new_spec(c:ConfM)(a:Option Addr)(cap:Nat)(hq:IntsIn Fr w a c.qs)(ha:AdOk a)(hcap:c.qs.length≤cap):Tri Tryz.prog 68 [.agg (c.cells a cap).toArray] Fr w []
  (fun v L=>if c=fitM c then ∃p,v=.tuple #[.pointer (some ⟨p,0,none⟩),.int .i64 0]∧L=[admH p (newA c)] else v=.tuple #[.pointer none,.int .i64 2]∧L=[]):=by
 refine TF 30 Tryz.func68 rfl ym tabOk rfl rfl ?_
 refine CS (CG (VG (VB (vs:=c.cells a cap) rfl fun x=>VG (VN ?_))))
 refine zpq ?_
 refine VG (VV (fun Fr w hF hs _=>check_spec Fr w c a cap (ints_of hq hF hs) ha hcap) rfl (VG (VN ?_)))
 refine xdf ?_
 refine VC.condNE rfl (fun h1=>?_) (fun h1=>CK ?_)
 ·have hc:¬c=fitM c:=fun e=>h1 (by rw[checkM,if_pos e])
  have hc2:checkM c=2:=by rw[checkM,if_neg hc]
  refine xdf ?_
  refine CR (Ret.tmp2 2 3 rfl rfl rfl Imp.nil.ent ?_)
  rw[if_neg hc,hc2];exact⟨rfl,rfl⟩
 have hc:c=fitM c:=by
  apply Decidable.byContradiction
  intro hc
  rw[checkM,if_neg hc] at h1
  cases h1
 obtain⟨hok,hc0,hc1⟩:=conf_new hc
 refine xdf ?_
 refine VG (VK (Lc:=[]) (fun Fr w hF hs _=>Sched.new_spec Fr w a cap c.qs c.queue (ints_of hq hF hs)) rfl rfl ?_)
 intro v L hv
 unfold newR at hv
 rw[if_pos hok] at hv
 obtain⟨sp,rfl,rfl⟩:=hv
 refine xdf ?_
 refine VC.condNE rfl (fun h=>absurd rfl h) (fun _=>CK ?_)
 refine xds ?_
 refine VG (VI (LB (pv:=[(0,pV sp),(1,.int .i64 c.clients),(2,.int .i64 c.qs.length)]) (admCs (newA c) sp) rfl rfl rfl (by
  have e:(newA c).sch.cls.length=c.qs.length:=by simp[newA,SchM.new]
  simp only[admCs,e]
  rfl) rfl) ?_)
 refine VG (VB (vs:=admCs (newA c) sp) rfl fun p=>VG (VN ?_))
 refine CR (Ret.tmp2 2 3 rfl rfl rfl (L':=[admH p (newA c)]) (adm_shut sp (newA_wf hc) (Imp.app (L:=[_,_]) (M:=[_,_]) Imp.refl Imp.nil)).ent ?_)
 rw[if_pos hc];exact⟨p,rfl,rfl⟩
def AdmM.withSch(A:AdmM)(S:SchM):AdmM:={ A with sch:=S }
def AdmM.waitM(A:AdmM)(f:FrameM)(now:Int):Int×AdmM:=
 if A.barred f.client f.seq f.try_ then (7,A) else if A.wt f.client=f.seq then (6,A) else if A.wt f.client≠0 then (1,A) else if f.deadline<now then (2,A)
 else if (A.sch.pushM f).1≠0 then (1,A.withSch (A.sch.pushM f).2) else (0,(A.withSch (A.sch.pushM f).2).setWt f.client f.seq)
def AdmM.offerM(A:AdmM)(f:FrameM)(now:Int):Int×AdmM:=
 if A.may f then if (A.waitM f now).1≠0∧(A.waitM f now).1≠6 then ((A.waitM f now).1,((A.waitM f now).2.barM f.client f.seq f.try_).2) else A.waitM f now else (10,A)
theorem AdmM.Wf.withSch{A:AdmM}(h:A.Wf){S:SchM}(hS:S.Wf):(A.withSch S).Wf:=⟨hS,h.c0,h.c1,h.marks,h.waits⟩
theorem AdmM.Wf.waitM{A:AdmM}(h:A.Wf)(f:FrameM)(now:Int):(A.waitM f now).2.Wf:=by
 unfold AdmM.waitM
 repeat' split
 all_goals first | exact h | exact h.withSch (push_wf h.sch f) | exact(h.withSch (push_wf h.sch f)).setWt _ _
theorem may_client{A:AdmM}{f:FrameM}(h:A.may f=true):A.has f.client=true∧numM f.seq=true∧numM f.try_=true:=by
 simp only[AdmM.may,Bool.and_eq_true] at h
 exact⟨h.1.1.1.1.1.1.1.1.1,h.1.1.1.1.1.1.1.2,h.1.1.1.1.1.1.2⟩
theorem has_nat{A:AdmM}(h:A.Wf){k:Int}(hk:A.has k=true):∃n:Nat,k=n∧n<6:=by
 have hk:=of_decide_eq_true hk
 obtain⟨n,rfl⟩:=Int.eq_ofNat_of_zero_le hk.1
 have:=h.c1
 exact⟨n,rfl,by omega⟩
theorem admCs_push{A:AdmM}(f:FrameM)(sp:Nat):admCs A sp=admCs (A.withSch (A.sch.pushM f).2) sp:=by
 simp only[admCs,AdmM.withSch,push_len]
theorem wait_spec(p:Nat)(A:AdmM)(f:FM)(hmm:MIn Fr w f.2)(now:Int)(hm:A.may f.1=true):Tri Tryz.prog 296 [.pointer (some ⟨p,0,none⟩),.agg (fmc f).toArray,.int .i64 now] Fr w [admH p A] (fun v L=>v=.int .i64 (A.waitM f.1 now).1∧L=[admH p (A.waitM f.1 now).2]):=by
 refine TF 53 Tryz.func296 rfl ym tabOk rfl rfl ?_
 refine CS (CG (VG (VB (vs:=fmc f) rfl fun b=>VG (VN ?_))))
 refine VC.opn 1 rfl (HOpn.adm p A) fun sp h=>?_
 refine CN (L':=pt b (fmc f) 198::admL p A sp) (Imp.perm List.perm_append_comm).ent ?_
 obtain⟨hhas,hnum,hnum2⟩:=may_client hm
 obtain⟨n,hcl,hn⟩:=has_nat h hhas
 have hwt:A.wt f.1.client=A.wt n:=by rw[hcl]
 have out:∀{X:Cx},Ent X (pt b (fmc f) 198::admL p A sp) [admH p A]:=fun {X}=>(Imp.trans Imp.tl (adm_shut sp h Imp.refl)).ent
 refine CS (CD (ts 0 8 .nil) ym yr ?_)
 refine xgc ?_
 refine xho ?_
 refine AG (VA.ld 1 rfl rfl rfl rfl (wt_cell h hn) ?_)
 refine xeh ?_
 refine xds ?_
 refine VG (VV (fun Fr w hF _ hs=>barred_spec Fr w f.1.client f.1.seq f.1.try_ (adm_in h hs.tail)) rfl (VG (VN ?_)))
 refine CC rfl (fun h1=>?_) (fun h1=>?_)
 ·have e:A.waitM f.1 now=(7,A):=by unfold AdmM.waitM;rw[if_pos h1]
  refine xdf ?_
  exact xhp
 refine xds ?_
 refine CE rfl (fun h2=>?_) (fun h2=>?_)
 ·have e:A.waitM f.1 now=(6,A):=by unfold AdmM.waitM;rw[if_neg yas,if_pos (hwt.trans h2)]
  refine xdf ?_
  exact xhp
 refine xds ?_
 refine VC.condNE rfl (fun h3=>?_) (fun h3=>?_)
 ·have e:A.waitM f.1 now=(1,A):=by unfold AdmM.waitM;rw[if_neg yas,if_neg yat,if_pos (by rw[hwt];exact h3)]
  refine xdf ?_
  exact xhp
 refine xds ?_
 refine CP rfl (fun h4=>?_) (fun h4=>?_)
 ·have e:A.waitM f.1 now=(2,A):=by unfold AdmM.waitM;rw[if_neg yas,if_neg yat,if_neg (by rw[hwt];exact fun x=>x h3),if_pos h4]
  refine xdf ?_
  exact xhp
 have e0:A.waitM f.1 now=if (A.sch.pushM f.1).1≠0 then (1,A.withSch (A.sch.pushM f.1).2) else (0,(A.withSch (A.sch.pushM f.1).2).setWt f.1.client f.1.seq):=by
  unfold AdmM.waitM;rw[if_neg yas,if_neg yat,if_neg (by rw[hwt];exact fun x=>x h3),if_neg h4]
 have hwf:=h.withSch (push_wf h.sch f.1)
 refine CS (CD (ts 0 5 (.only 5 (ts 6 2 .nil))) ym yr ?_)
 refine xgc ?_
 refine AG (VA.ldA 0 (fmc f) rfl rfl rfl rfl rfl ?_)
 refine AG (AQ 2 (ψ:=fun v H=>v=.int .i64 (A.sch.pushM f.1).1∧H=schH sp (A.sch.pushM f.1).2) rfl (fun Fr w hF hs _=>Sched.push_spec Fr w sp A.sch f (hmm.of hF hs)) rfl rfl (fun v L1 h=>⟨_,h.2,h.1,rfl⟩) ?_ ?_)
 ·rintro _ _ ⟨rfl,rfl⟩
  exact yu
 rintro _ _ ⟨rfl,rfl⟩
 refine xeh ?_
 refine VC.condNE rfl (fun h5=>?_) (fun h5=>CK ?_)
 ·have e:A.waitM f.1 now=(1,A.withSch (A.sch.pushM f.1).2):=by rw[e0,if_pos h5]
  refine xdf ?_
  refine CR (Ret.int 6 rfl rfl yaj (Imp.trans Imp.tl (adm_shut sp hwf (Imp.of_eq ?_))).ent ⟨rfl,by rw[e]⟩)
  rw[admL,admCs_push f.1 sp];rfl
 have e:A.waitM f.1 now=(0,(A.withSch (A.sch.pushM f.1).2).setWt n f.1.seq):=by rw[e0,if_neg (fun x=>x h5),hcl]
 refine CS (CD (ts 0 8 (.only 8 .nil)) ym yr ?_)
 refine xgc ?_
 refine xho ?_
 refine AG (VA.st 1 rfl rfl rfl rfl rfl yau (cs':=admCs ((A.withSch (A.sch.pushM f.1).2).setWt n f.1.seq) sp) (by rw[admCs_push f.1 sp];exact wt_set hwf hn f.1.seq) rfl yu ?_)
 refine zpr ?_
 exact CR (Ret.int 6 rfl rfl yaj (Imp.trans Imp.tl (adm_shut sp (hwf.setWt n f.1.seq) (Imp.of_eq rfl))).ent ⟨rfl,by rw[e]⟩)
theorem offer_spec(p:Nat)(A:AdmM)(f:FM)(hmm:MIn Fr w f.2)(now:Int):Tri Tryz.prog 284 [.pointer (some ⟨p,0,none⟩),.agg (fmc f).toArray,.int .i64 now] Fr w [admH p A] (fun v L=>v=.int .i64 (A.offerM f.1 now).1∧L=[admH p (A.offerM f.1 now).2]):=by
 refine TF 31 Tryz.func284 rfl ym tabOk rfl rfl ?_
 refine CS (CG (VG (VB (vs:=fmc f) rfl fun b=>VG (VN ?_))))
 refine xdf ?_
 refine VG (VL 0 (fmc f) rfl rfl rfl rfl ?_)
 refine VG (VV (fun Fr w hF _ hs=>may_spec Fr w f (hs.at_ 1 rfl)) rfl (VG (VN ?_)))
 refine VC.condN rfl (fun h1=>?_) (fun h1=>CK ?_)
 ·have e:A.offerM f.1 now=(10,A):=by unfold AdmM.offerM;rw[if_neg yas]
  refine xdf ?_
  exact CR (Ret.int 6 rfl rfl yaj (L':=[admH p A]) Imp.tl.ent ⟨rfl,by rw[e]⟩)
 refine xdf ?_
 refine VG (VL 0 (fmc f) rfl rfl rfl rfl ?_)
 refine VG (VQ 1 (ψ:=fun v H=>v=.int .i64 (A.waitM f.1 now).1∧H=admH p (A.waitM f.1 now).2) rfl (fun Fr w hF hs _=>wait_spec Fr w p A f (hmm.of hF hs) now h1) rfl (fun v L1 h=>⟨_,h.2,h.1,rfl⟩) ?_)
 rintro _ _ ⟨rfl,rfl⟩
 have e0:A.offerM f.1 now=if (A.waitM f.1 now).1≠0∧(A.waitM f.1 now).1≠6 then ((A.waitM f.1 now).1,((A.waitM f.1 now).2.barM f.1.client f.1.seq f.1.try_).2) else A.waitM f.1 now:=by unfold AdmM.offerM;rw[if_pos h1]
 refine xdf ?_
 refine VG (VO.split 18 rfl rfl (fun h2=>?_) (fun h2=>?_))
 ·have h2:(A.waitM f.1 now).1≠0:=by simpa using h2
  refine VG (VN (VC.condNE rfl (fun h3=>?_) (fun h3=>CK ?_)))
  ·have e:A.offerM f.1 now=((A.waitM f.1 now).1,((A.waitM f.1 now).2.barM f.1.client f.1.seq f.1.try_).2):=by rw[e0,if_pos ⟨h2,h3⟩]
   refine xdf ?_
   refine VG (VQ 1 (ψ:=fun v H=>H=admH p ((A.waitM f.1 now).2.barM f.1.client f.1.seq f.1.try_).2) rfl (fun Fr w _ _ _=>bar_spec Fr w p _ _ _ _) rfl (fun v L1 h=>⟨_,h.2,rfl⟩) ?_)
   rintro _ _ rfl
   refine xdf ?_
   exact xhq
  ·have e:A.offerM f.1 now=A.waitM f.1 now:=by rw[e0,if_neg (fun x=>x.2 h3)]
   refine xdf ?_
   exact xhq
 ·have h2:(A.waitM f.1 now).1=0:=by simpa using h2
  have e:A.offerM f.1 now=A.waitM f.1 now:=by rw[e0,if_neg (fun x=>x.1 h2)]
  refine zpb ?_
  exact xhq
end Adm
namespace Sched
open Go Vg T Api
def popV(S:SchM):FrameM×Bool×SchM:=match S.popM with
 | some r=>(r.1,true,r.2)
 | none=>(FrameM.zero,false,S)
theorem popV_s{p:Nat}{S:SchM}{v:Value}{L:List HP}(h:popR p S v L):∃H,L=[H]∧(∃m,v=.tuple #[.agg (fmc ((popV S).1,m)).toArray,.bool (popV S).2.1])∧H=schH p (popV S).2.2:=by
 unfold popR at h;unfold popV
 cases hp:S.popM with
 | none=>rw[hp] at h;exact⟨_,h.2,⟨(none,0,0),h.1⟩,rfl⟩
 | some r=>rw[hp] at h;exact⟨_,h.2,h.1,rfl⟩
theorem popV_wf{S:SchM}(h:S.Wf):(popV S).2.2.Wf:=by
 unfold popV
 cases hp:S.popM with
 | none=>exact h
 | some r=>obtain⟨f,S1⟩:=r;obtain⟨_,_,_,_,_,hw⟩:=popM_some h hp;exact hw
theorem popV_len{S:SchM}(h:S.Wf):(popV S).2.2.cls.length=S.cls.length:=by
 unfold popV
 cases hp:S.popM with
 | none=>rfl
 | some r=>
  obtain⟨f,S1⟩:=r
  obtain⟨_,_,_,h2,_,_⟩:=popM_some h hp
  have:=congrArg List.length h2
  simpa[SchM.qs] using this
theorem popV_ok{S:SchM}(h:S.Wf)(ho:(popV S).2.1=true):∃k q,S.qs[k]?=some ((popV S).1::q)∧(popV S).2.2.qs=S.qs.set k q:=by
 unfold popV at ho ⊢
 cases hp:S.popM with
 | none=>rw[hp] at ho;cases ho
 | some r=>
  obtain⟨f,S1⟩:=r
  obtain⟨k,q,h1,h2,_,_⟩:=popM_some h hp
  exact⟨k,q,h1,h2⟩
theorem popV_no{S:SchM}(h:S.Wf)(ho:(popV S).2.1=false):S.idle=true∧(popV S).2.2=S:=by
 unfold popV at ho ⊢
 cases hp:S.popM with
 | none=>exact⟨popM_none h hp,rfl⟩
 | some r=>rw[hp] at ho;cases ho
end Sched
namespace Adm
open Go Vg T Api Sched Conf
attribute [local irreducible] VO VC VA
def okC(n:Int)(f:FrameM):Prop:=(0≤f.client∧f.client<n)∧numM f.seq=true∧numM f.try_=true
def AdmM.Calls(A:AdmM):Prop:=∀q∈A.sch.qs,∀f∈q,okC A.clients f
def AdmM.out(A:AdmM)(f:FrameM):AdmM:=(A.setWt f.client 0).barF f.client f.seq f.try_
def AdmM.expF(A:AdmM)(l:List FrameM):AdmM:=l.foldl AdmM.out A
def AdmM.expireM(A:AdmM)(now:Int):AdmM:=(A.withSch (A.sch.expM now)).expF (A.sch.goneM now)
theorem AdmM.Wf.out{A:AdmM}(h:A.Wf)(f:FrameM):(A.out f).Wf:=(h.setWt _ _).barF _ _ _
theorem barF_clients(A:AdmM)(k s t:Int):(A.barF k s t).clients=A.clients:=by unfold AdmM.barF;split<;>rfl
theorem barF_sch(A:AdmM)(k s t:Int):(A.barF k s t).sch=A.sch:=by unfold AdmM.barF;split<;>rfl
theorem out_clients(A:AdmM)(f:FrameM):(A.out f).clients=A.clients:=by rw[AdmM.out,barF_clients];rfl
theorem out_sch(A:AdmM)(f:FrameM):(A.out f).sch=A.sch:=by rw[AdmM.out,barF_sch];rfl
theorem expF_keeps:∀(l:List FrameM) {A:AdmM},A.Wf→(A.expF l).Wf∧(A.expF l).clients=A.clients∧(A.expF l).sch=A.sch
 | [],A,h=>⟨h,rfl,rfl⟩
 | f::l,A,h=>by
  have:=expF_keeps l (h.out f)
  rw[out_clients,out_sch] at this
  exact this
theorem expF_snoc(A:AdmM)(l:List FrameM)(f:FrameM):A.expF (l ++ [f])=(A.expF l).out f:=by simp[AdmM.expF]
theorem exp_len(S:SchM)(now:Int):(S.expM now).cls.length=S.cls.length:=by simp[SchM.expM]
theorem expire_wf{A:AdmM}(h:A.Wf)(now:Int):(A.expireM now).Wf∧(A.expireM now).clients=A.clients∧(A.expireM now).sch=A.sch.expM now:=
 expF_keeps _ (h.withSch (exp_wf h.sch now))
theorem gone_ok{A:AdmM}(hc:A.Calls)(now:Int):∀f∈A.sch.goneM now,okC A.clients f:=fun f hf=>by
 rw[gone_qs] at hf
 obtain⟨q,hq,hf⟩:=List.mem_flatMap.1 hf
 exact hc q hq f (List.mem_filter.1 hf).1
theorem bar_ok{A:AdmM}{f:FrameM}(h:okC A.clients f):(A.barM f.client f.seq f.try_)=(0,A.barF f.client f.seq f.try_):=by
 have h1:A.has f.client=true:=by simp[AdmM.has,h.1]
 simp[AdmM.barM,h1,h.2.1,h.2.2]
theorem admCs_exp{A:AdmM}(now:Int)(sp:Nat):admCs A sp=admCs (A.withSch (A.sch.expM now)) sp:=by
 simp only[admCs,AdmM.withSch,exp_len]
def goneL(p:Nat)(A:AdmM)(gs:List FrameM)(v:Value)(L:List HP):Prop:=∃r:RL FM,r.Ok fmc 29∧r.xs.map Prod.fst=gs∧v=r.v∧L=[r.h 198,admH p A]
theorem expire_spec(p:Nat)(A:AdmM)(now:Int)(hC:A.Calls):Tri Tryz.prog 228 [.pointer (some ⟨p,0,none⟩),.int .i64 now] Fr w [admH p A] (goneL p (A.expireM now) (A.sch.goneM now)):=by
 refine TF 36 Tryz.func228 rfl ym tabOk rfl rfl ?_
 refine VC.opn 0 rfl (HOpn.adm p A) fun sp h=>?_
 refine CN (L':=admL p A sp) (Imp.of_eq (List.append_nil _)).ent ?_
 have hwf:=h.withSch (exp_wf h.sch now)
 refine xet ?_
 refine VC.meet (σ:=RL FM) (fun r=>[(0,pV p),(5,r.v)]) (fun r=>[r.h 198,admH p (A.withSch (A.sch.expM now))]) (fun r=>r.Ok fmc 29∧r.xs.map Prod.fst=A.sch.goneM now) ?_ ?_
 ·refine xdf ?_
  refine VO.ent (L':=[schH sp A.sch,pt p (admCs A sp) 181]) (Imp.perm (List.Perm.swap _ _ _)).ent ?_
  refine VG (VK (Lc:=[schH sp A.sch]) (fun Fr w _ _ _=>Sched.expire_spec Fr w sp A.sch now) rfl rfl ?_)
  rintro _ _ ⟨a,c,gs,hgs,rfl,rfl⟩
  refine VO.opn 1 rfl (HOpn.rl _ a c gs fmc_len) fun r ⟨hok,hv,hx⟩=>?_
  refine VG (VN ⟨r,⟨hok,by rw[hx,hgs]⟩,SC rfl (SC (by rw[hv];rfl) (SN _)),?_⟩)
  refine(Imp.cons (adm_shut sp hwf ?_)).ent
  show Imp [schH sp (A.sch.expM now),pt p (admCs A sp) 181] _
  rw[admCs_exp now sp]
  exact Imp.perm (List.Perm.swap _ _ _)
 rintro r ⟨hok,hgs⟩
 have hgok:=gone_ok hC now
 have hfew:=h.sch.fewG A.sch.cls.length now
 rw[List.take_length] at hfew
 have hl:r.xs.length≤64:=by
  have:=congrArg List.length hgs
  rw[List.length_map] at this
  rw[this];exact hfew
 refine xdf ?_
 refine VC.loop (σ:=Nat) (fun i=>[(0,pV p),(5,r.v),(14,r.v),(15,.int .i64 r.xs.length),(16,.int .i64 i)]) (fun i=>[r.h 198,admH p ((A.withSch (A.sch.expM now)).expF ((A.sch.goneM now).take i))]) (fun i=>i≤r.xs.length) (fun i=>r.xs.length-i) 0 (Nat.zero_le _) sbZ ER ?_
 intro i hi
 refine xdf ?_
 refine CP rfl (fun h1=>CK ?_) (fun h1=>CX ?_)
 ·have hi2:i<r.xs.length:=by omega
  obtain⟨⟨f,m⟩,hx⟩:∃x,r.xs[i]?=some x:=⟨_,GE hi2⟩
  obtain⟨bk,off,hbk,had,hrow⟩:=hok.nth hx
  have hg:(A.sch.goneM now)[i]?=some f:=by rw[←hgs,List.getElem?_map,hx];rfl
  have hf:=hgok f (ME hg)
  have htake:(A.sch.goneM now).take (i+1)=(A.sch.goneM now).take i ++ [f]:=by rw[List.take_add_one,hg];rfl
  obtain⟨hAwf,hAc,hAs⟩:=expF_keeps ((A.sch.goneM now).take i) hwf
  have hnext:(A.withSch (A.sch.expM now)).expF ((A.sch.goneM now).take (i+1))=((A.withSch (A.sch.expM now)).expF ((A.sch.goneM now).take i)).out f:=by rw[htake,expF_snoc]
  generalize hB:(A.withSch (A.sch.expM now)).expF ((A.sch.goneM now).take i)=B at hAwf hAc hAs ⊢
  have hBc:B.clients=A.clients:=hAc
  obtain⟨n,hcl⟩:=Int.eq_ofNat_of_zero_le hf.1.1
  have hn:n<6:=by have:=hf.1.2;have:=h.c1;omega
  have hv:r.v=.slice (some ⟨bk,off,none⟩) r.xs.length r.cap:=by rw[RL.v,had]
  have hv':some r.v=some (.slice (some ⟨bk,off,none⟩) r.xs.length r.cap):=by rw[hv]
  refine VC.opn 1 rfl (HOpn.adm p B) fun sp2 h2=>?_
  refine CN (L':=pt p (admCs B sp2) 181::schH sp2 B.sch::r.h 198 :: []) ER ?_
  rw[RL.h_pt hbk]
  refine CS (VC.block ?_)
  refine CS (CG ?_)
  refine VG (VI (light_idx i hv' rfl rfl rfl rfl rfl hi2) ?_)
  refine VG (VO.load rfl rfl (v:=.agg (fmc (f,m)).toArray) (RdL.many 2 rfl hrow) ?_)
  refine VG (VO.alloc rfl fun b7=>VG (VT (vs:=fmc (f,m)) (cs':=fmc (f,m)) 0 rfl rfl rfl rfl (NR _) rfl rfl rfl (VG (VN ?_))))
  refine xfi ?_
  refine xeh ?_
  refine xho ?_
  refine AG (VA.st 1 rfl rfl rfl rfl rfl (by rw[admCs_len h2];show 0+15+n*1<21;omega) (cs':=admCs (B.setWt n 0) sp2) (wt_set h2 hn 0) rfl yu (AG (AN ?_)))
  refine CG ?_
  refine VO.ent (L':=[pt b7 (fmc (f,m)) 198,admH p (B.setWt n 0),pt bk r.cells 198]) (Imp.cons (Imp.trans (Imp.perm (List.perm_append_comm (l₁:=[_,_]) (l₂:=[_]))) (Imp.trans (Imp.cons (adm_shut sp2 (h2.setWt n 0) Imp.refl)) (Imp.perm (List.Perm.swap _ _ _))))).ent ?_
  refine VG (VO.ld 0 rfl rfl rfl rfl (VG (VO.ld 0 rfl rfl rfl rfl (VG (VO.ld 0 rfl rfl rfl rfl ?_)))))
  refine VG (VQ 1 (ψ:=fun v H=>H=admH p (B.out f)) rfl (fun Fr w _ _ _=>bar_spec Fr w p (B.setWt n 0) _ _ _) rfl (fun v L1 h=>⟨_,h.2,?_⟩) ?_)
  ·have e:B.setWt n 0=B.setWt f.client 0:=by rw[hcl]
   have:=bar_ok (A:=B.setWt f.client 0) (f:=f) (by show okC B.clients f;rw[hBc];exact hf)
   rw[e]
   show admH p ((B.setWt f.client 0).barM f.client f.seq f.try_).2=_
   rw[this];rfl
  rintro _ _ rfl
  refine xeg ?_
  refine zor ?_
  refine⟨i+1,hi2,by dsimp only;omega,sbZ,?_⟩
  dsimp only
  rw[hnext,hB]
  exact(Imp.trans Imp.tl (Imp.perm (List.Perm.swap _ _ _))).ent
 ·have hi2:i=r.xs.length:=by omega
  subst hi2
  have e:(A.sch.goneM now).take r.xs.length=A.sch.goneM now:=by rw[List.take_of_length_le];rw[←hgs];simp
  rw[e]
  refine xdf ?_
  exact CR (Ret.tmp 4 rfl rfl ER ⟨r,hok,hgs,rfl,rfl⟩)
def AdmM.nextM(A:AdmM)(now:Int):AdmM:=
 if (popV (A.expireM now).sch).2.1 then ((A.expireM now).withSch (popV (A.expireM now).sch).2.2).setWt (popV (A.expireM now).sch).1.client 0 else (A.expireM now).withSch (popV (A.expireM now).sch).2.2
theorem exp_calls{A:AdmM}(h:A.Wf)(hC:A.Calls)(now:Int):(A.expireM now).Calls:=by
 obtain⟨_,h2,h3⟩:=expire_wf h now
 intro q hq f hf
 rw[h3,exp_qs] at hq
 obtain⟨q0,hq0,rfl⟩:=List.mem_map.1 hq
 rw[h2]
 exact hC q0 hq0 f (List.mem_filter.1 hf).1
theorem admCs_withSch{A:AdmM}{S:SchM}(hl:S.cls.length=A.sch.cls.length)(sp:Nat):admCs A sp=admCs (A.withSch S) sp:=by
 simp only[admCs,AdmM.withSch,hl]
theorem next_wf{A:AdmM}(h:A.Wf)(now:Int):(A.nextM now).Wf:=by
 obtain⟨h1,_,_⟩:=expire_wf h now
 unfold AdmM.nextM
 split
 ·exact(h1.withSch (popV_wf h1.sch)).setWt _ _
 ·exact h1.withSch (popV_wf h1.sch)
def nextR(p:Nat)(A:AdmM)(now:Int)(v:Value)(L:List HP):Prop:=∃(r:RL FM) (m:MemS),r.Ok fmc 29∧r.xs.map Prod.fst=A.sch.goneM now∧v=.tuple #[.agg (fmc ((popV (A.expireM now).sch).1,m)).toArray,.bool (popV (A.expireM now).sch).2.1,r.v]∧L=[r.h 198,admH p (A.nextM now)]
theorem next_spec(p:Nat)(A:AdmM)(now:Int)(hw:A.Wf)(hC:A.Calls):Tri Tryz.prog 165 [.pointer (some ⟨p,0,none⟩),.int .i64 now] Fr w [admH p A] (nextR p A now):=by
 refine TF 31 Tryz.func165 rfl ym tabOk rfl rfl ?_
 refine CS (CG (VG (VO.alloc rfl fun b=>VG (VN ?_))))
 refine xdf ?_
 refine VG (VV (u:=.bool false) (fun Fr w hF _ hs=>by
  obtain⟨sp,h⟩:=AdmIn.of (hs.at_ 1 rfl)
  exact none_spec Fr w h.at0) rfl (VG (VN (VC.condF rfl (CK ?_)))))
 refine xdf ?_
 refine VO.ent (L':=[admH p A,pt b (fmc fmz) 198]) (Imp.perm (List.Perm.swap _ _ _)).ent ?_
 refine VG (VK (Lc:=[admH p A]) (fun Fr w _ _ _=>expire_spec Fr w p A now hC) rfl rfl ?_)
 rintro _ _ ⟨r,hok,hgs,rfl,rfl⟩
 obtain⟨hE,hEc,hEs⟩:=expire_wf hw now
 have hEC:=exp_calls hw hC now
 have hnext:A.nextM now=if (popV (A.expireM now).sch).2.1 then ((A.expireM now).withSch (popV (A.expireM now).sch).2.2).setWt (popV (A.expireM now).sch).1.client 0 else (A.expireM now).withSch (popV (A.expireM now).sch).2.2:=rfl
 have hR:∀(m:MemS),nextR p A now (.tuple #[.agg (fmc ((popV (A.expireM now).sch).1,m)).toArray,.bool (popV (A.expireM now).sch).2.1,r.v]) [r.h 198,admH p (A.nextM now)]:=fun m=>⟨r,m,hok,hgs,rfl,rfl⟩
 rw[hnext] at hR
 clear hnext
 generalize A.expireM now=B at hE hEc hEs hEC hR ⊢
 refine xeg ?_
 refine VC.opn 1 rfl (HOpn.adm p B) fun sp h=>?_
 refine CN (L':=[pt p (admCs B sp) 181,schH sp B.sch,r.h 198,pt b (fmc fmz) 198]) ER ?_
 refine xdf ?_
 refine VG (VQ 1 (ψ:=fun v H=>(∃m,v=.tuple #[.agg (fmc ((popV B.sch).1,m)).toArray,.bool (popV B.sch).2.1])∧H=schH sp (popV B.sch).2.2) rfl (fun Fr w _ _ _=>Sched.pop_any Fr w sp B.sch h.sch) rfl (fun v L1 h=>popV_s h) ?_)
 rintro _ _ ⟨⟨m,rfl⟩,rfl⟩
 refine VG (VT (vs:=fmc ((popV B.sch).1,m)) (cs':=fmc ((popV B.sch).1,m)) 3 rfl rfl rfl rfl (NR _) rfl rfl rfl (VG (VN ?_)))
 have hS1:=popV_wf h.sch
 have hwf:=h.withSch hS1
 have hcs:=admCs_withSch (popV_len h.sch) sp
 refine xdf ?_
 refine CC rfl (fun h1=>?_) (fun h1=>CK ?_)
 ·obtain⟨k,q,hk,_⟩:=popV_ok h.sch h1
  have hf:okC B.clients (popV B.sch).1:=hEC _ (ME hk) _ yf
  obtain⟨n,hcl⟩:=Int.eq_ofNat_of_zero_le hf.1.1
  have hn:n<6:=by have:=hf.1.2;have:=h.c1;omega
  rw[if_pos h1,hcl] at hR
  refine xhh ?_
  refine xfe ?_
  refine xho ?_
  refine AG (VA.st 0 rfl rfl rfl rfl rfl yau (cs':=admCs ((B.withSch (popV B.sch).2.2).setWt n 0) sp) (by rw[hcs];exact wt_set hwf hn 0) rfl yu (AG (AN ?_)))
  refine CS (CG ?_)
  refine VG (VL 3 (fmc ((popV B.sch).1,m)) rfl rfl rfl rfl (VG (VT (vs:=fmc ((popV B.sch).1,m)) (cs':=fmc ((popV B.sch).1,m)) 3 rfl rfl rfl rfl (NR _) rfl rfl rfl (VG (VN ?_)))))
  refine CR (Ret.cell3 4 5 6 rfl rfl rfl (RdL.many 3 rfl rfl) rfl rfl (L':=[r.h 198,admH p ((B.withSch (popV B.sch).2.2).setWt n 0)]) ?_ (hR m))
  exact(IP 2 rfl (adm_shut sp (hwf.setWt n 0) (Imp.app (L:=[_,_]) (M:=[_,_]) Imp.refl Imp.nil))).ent
 ·rw[if_neg yas] at hR
  refine CS (CG ?_)
  refine VG (VL 3 (fmc ((popV B.sch).1,m)) rfl rfl rfl rfl (VG (VT (vs:=fmc ((popV B.sch).1,m)) (cs':=fmc ((popV B.sch).1,m)) 3 rfl rfl rfl rfl (NR _) rfl rfl rfl (VG (VN ?_)))))
  refine CR (Ret.cell3 4 5 6 rfl rfl rfl (RdL.many 3 rfl rfl) rfl rfl (L':=[r.h 198,admH p (B.withSch (popV B.sch).2.2)]) ?_ (hR m))
  rw[hcs]
  exact(IP 2 rfl (adm_shut sp hwf (Imp.app (L:=[_,_]) (M:=[_,_]) Imp.refl Imp.nil))).ent
theorem flush_spec(p:Nat)(A:AdmM)(hC:A.Calls):Tri Tryz.prog 250 [.pointer (some ⟨p,0,none⟩)] Fr w [admH p A] (goneL p (A.expireM 9223372036854775807) (A.sch.goneM 9223372036854775807)):=by
 refine TF 7 Tryz.func250 rfl ym tabOk rfl rfl ?_
 refine xdf ?_
 refine VG (VV (u:=.bool false) (fun Fr w hF _ hs=>by
  obtain⟨sp,h⟩:=AdmIn.of (hs.at_ 0 rfl)
  exact none_spec Fr w h.at0) rfl (VG (VN (VC.condF rfl (CK ?_)))))
 refine xdf ?_
 refine VG (VK (Lc:=[admH p A]) (fun Fr w _ _ _=>expire_spec Fr w p A _ hC) rfl rfl ?_)
 rintro _ _ ⟨r,hok,hgs,rfl,rfl⟩
 refine xeg ?_
 exact CR (Ret.tmp 2 rfl rfl ER ⟨r,hok,hgs,rfl,rfl⟩)
end Adm
namespace Adm
open Go Vg T Api Sched Conf
attribute [local irreducible] VO VC VA
theorem offer_wf{A:AdmM}(h:A.Wf)(f:FrameM)(now:Int):(A.offerM f now).2.Wf:=by
 unfold AdmM.offerM
 repeat' split
 all_goals first | exact h | exact(h.waitM f now).barM _ _ _ | exact h.waitM f now
theorem barM_clients(A:AdmM)(k s t:Int):(A.barM k s t).2.clients=A.clients:=by unfold AdmM.barM;split;exact barF_clients _ _ _ _;rfl
theorem barM_sch(A:AdmM)(k s t:Int):(A.barM k s t).2.sch=A.sch:=by unfold AdmM.barM;split;exact barF_sch _ _ _ _;rfl
theorem wait_clients(A:AdmM)(f:FrameM)(now:Int):(A.waitM f now).2.clients=A.clients:=by
 unfold AdmM.waitM
 repeat' split
 all_goals rfl
theorem offer_clients(A:AdmM)(f:FrameM)(now:Int):(A.offerM f now).2.clients=A.clients:=by
 unfold AdmM.offerM
 repeat' split
 all_goals first | rfl | (rw[barM_clients];exact wait_clients A f now) | exact wait_clients A f now
theorem wait_sch(A:AdmM)(f:FrameM)(now:Int):(A.waitM f now).2.sch=A.sch∨(A.waitM f now).2.sch=(A.sch.pushM f).2:=by
 unfold AdmM.waitM
 repeat' split
 all_goals first | exact .inl rfl | exact .inr rfl
theorem may_cls{A:AdmM}{f:FrameM}(h:A.may f=true):(∃k:Nat,f.cls=k∧k<A.sch.cls.length)∧opCheck f.op=0:=by
 simp only[AdmM.may,Bool.and_eq_true,decide_eq_true_eq,beq_iff_eq] at h
 obtain⟨n,hn⟩:=Int.eq_ofNat_of_zero_le h.1.1.1.1.1.2
 exact⟨⟨n,hn,by have:=h.1.1.1.1.2;omega⟩,h.1.2⟩
theorem push_calls{n:Int}{S:SchM}{f:FrameM}(hC:∀q∈S.qs,∀g∈q,okC n g)(hf:okC n f){k:Nat}(hk:f.cls=k)(hlt:k<S.cls.length)(ho:opCheck f.op=0):∀q∈(S.pushM f).2.qs,∀g∈q,okC n g:=by
 have hc:S.qs[k]?=some (S.cls[k].q):=by simp[SchM.qs,GE hlt]
 obtain⟨_,h2,_⟩:=push_qs hk hc ho
 rw[h2]
 split
 ·intro q hq g hg
  rcases List.mem_or_eq_of_mem_set hq with hq | rfl
  ·exact hC q hq g hg
  ·rcases List.mem_append.1 hg with hg | hg
   ·exact hC _ (ME hc) g hg
   ·obtain rfl:=List.mem_singleton.1 hg;exact hf
 ·exact hC
theorem offer_calls{A:AdmM}(hC:A.Calls)(f:FrameM)(now:Int):(A.offerM f now).2.Calls:=by
 intro q hq g hg
 rw[offer_clients]
 have key:A.may f=true→∀q∈(A.waitM f now).2.sch.qs,∀g∈q,okC A.clients g:=fun hm=>by
  obtain⟨⟨k,hk,hlt⟩,ho⟩:=may_cls hm
  obtain⟨h1,h2,h3⟩:=may_client hm
  rcases wait_sch A f now with e | e
  ·rw[e];exact hC
  ·rw[e];exact push_calls hC ⟨of_decide_eq_true h1,h2,h3⟩ hk hlt ho
 unfold AdmM.offerM at hq
 split at hq
 ·rename_i hm
  split at hq
  ·rw[barM_sch] at hq;exact key hm q hq g hg
  ·exact key hm q hq g hg
 ·exact hC q hq g hg
theorem pop_calls{n:Int}{S:SchM}(h:S.Wf)(hC:∀q∈S.qs,∀g∈q,okC n g):∀q∈(popV S).2.2.qs,∀g∈q,okC n g:=by
 cases ho:(popV S).2.1 with
 | true=>
  obtain⟨k,q,h1,h2⟩:=popV_ok h ho
  rw[h2]
  intro q' hq' g hg
  rcases List.mem_or_eq_of_mem_set hq' with hq' | rfl
  ·exact hC q' hq' g hg
  ·exact hC _ (ME h1) g (List.mem_cons_of_mem _ hg)
 | false=>rw[(popV_no h ho).2];exact hC
theorem next_calls{A:AdmM}(h:A.Wf)(hC:A.Calls)(now:Int):(A.nextM now).Calls:=by
 obtain⟨h1,h2,h3⟩:=expire_wf h now
 have:=pop_calls h1.sch (exp_calls h hC now)
 unfold AdmM.nextM
 split<;>exact this
theorem newA_calls(c:ConfM):(newA c).Calls:=by
 intro q hq g hg
 simp only[newA,SchM.qs,SchM.new,List.map_map,List.mem_map] at hq
 obtain⟨x,_,rfl⟩:=hq
 simp[clsNew] at hg
theorem near_idem{x lo hi:Int}(h:lo≤hi):near (near x lo hi) lo hi=near x lo hi:=near_same (near_in h).1 (near_in h).2
theorem qFit_idem(qs:List Int):qFit (qFit qs)=qFit qs:=by
 have h:=qFit_len qs
 have h1:qFirst (qFit qs)=qFit qs:=by
  have e:(qFit qs).take 4=qFit qs:=List.take_of_length_le h.2
  unfold qFirst
  rw[e,if_neg]
  intro e2;rw[e2] at h;simp at h
 have h2:(qFit qs).map qNear=qFit qs:=by
  have:∀x∈qFit qs,qNear x=x:=fun x hx=>by
   obtain⟨y,_,rfl⟩:=List.mem_map.1 hx
   exact near_idem yd
  rw[List.map_congr_left this];simp
 show(qFirst (qFit qs)).map qNear=qFit qs
 rw[h1,h2]
theorem fit_idem(c:ConfM):fitM c=fitM (fitM c):=by
 have hn:=near_in (x:=c.nodes) (lo:=1) (hi:=6) yd
 have e1:=near_idem (x:=c.nodes) (lo:=1) (hi:=6) yd
 have e2:near (near c.chain 1 (near c.nodes 1 6)) 1 (near (near c.nodes 1 6) 1 6)=near c.chain 1 (near c.nodes 1 6):=by rw[e1];exact near_idem hn.1
 simp only[fitM,ConfM.mk.injEq]
 exact⟨e1.symm,e2.symm,(near_idem yd).symm,(qFit_idem _).symm,(near_idem yd).symm,(near_idem yd).symm,(near_idem yd).symm,(near_idem yd).symm,(near_idem yd).symm,(near_idem yd).symm,(near_idem yd).symm,(near_idem yd).symm⟩
end Adm
end Go.Proofs.YtmghpgpfeabghaaGreat
