/- Texts of the proof, put together and shortened. No condition. -/
import Derived.Test.YtmghpgpfeabghaaGreatZe2
set_option maxRecDepth 100000
set_option maxHeartbeats 16000000
set_option linter.unusedVariables false
set_option linter.unusedSectionVars false
set_option linter.unusedSimpArgs false
namespace Go.Proofs.YtmghpgpfeabghaaGreat
variable (Fr : Nat → Prop) (w : World)
namespace Rep
open Go Vg T Api Kv Ch Lg Rd Win Adm
attribute [local irreducible] VO VC VA
abbrev SndM:=Int×FrameM
def mem0:MemG:=(none,0,0)
def sndC(s:SndM):List Value:=.int .i64 s.1::fgC s.2 mem0
abbrev sndT:TypeId:=200
abbrev outT:TypeId:=207
abbrev repT:TypeId:=115
def outL(b:Nat)(S:List SndM)(x:Option Addr×Nat):List HP:=[pt b [.slice x.1 S.length x.2] outT,slH sndT 30 x.1 S.length x.2 (flat sndC S)]
def outH(b:Nat)(S:List SndM):HP:=hex fun x=>hsep (outL b S x)
theorem HOpn.out(b:Nat)(S:List SndM):HOpn (ι:=Option Addr×Nat) (outH b S) (fun _=>True) (fun x=>outL b S x):=fun w ids ⟨x,h⟩ hn=>⟨x,trivial,ids,h,hn,fun _ h=>h⟩
theorem Imp.out{b:Nat}{S:List SndM}{L M:List HP}(x:Option Addr×Nat)(h:Imp L (outL b S x++M)):Imp L (outH b S::M):=
 Imp.ex (f:=fun x=>hsep (outL b S x)) x (Imp.sep (Ls:=outL b S x) h)
def sendF(b:Nat):Value:=fnV 112 [.pointer (some ⟨b,0,none⟩)] []
theorem add_spec(b:Nat)(S:List SndM)(hS:S.length≤1000000)(to_:Int)(f:FrameM):Tri Tryz.prog 112 [.pointer (some ⟨b,0,none⟩),.int .i64 to_,.agg (fgC f mem0).toArray] Fr w [outH b S] (fun v L=>v=.tuple #[]∧L=[outH b (S ++ [(to_,f)])]):=by
 refine TF 18 Tryz.func112 rfl ym tabOk rfl rfl ?_
 refine CS (CG (VG (VB (vs:=fgC f mem0) rfl fun fb=>VG (VN ?_))))
 refine VC.opn 1 rfl (HOpn.out b S) ?_
 rintro⟨a,c⟩ -
 show VC _ _ _ [pt b [.slice a S.length c] outT,slH sndT 30 a S.length c (flat sndC S),pt fb (fgC f mem0) frT] _
 refine CD (ts 0 8 (.only 8 (.only 9 (ts 10 2 (.only 12 .nil))))) ym yr ?_
 refine xeh ?_
 refine AG (VA.ldA 2 (fgC f mem0) rfl rfl rfl rfl rfl ?_)
 refine AG (AI rfl (LB (pv:=[(0,.int .i64 to_),(1,.agg (fgC f mem0).toArray)]) (sndC (to_,f)) rfl rfl rfl ym rfl) ?_)
 refine AG (AO (OpT.buildSlice (n:=1) (pv:=[(0,.agg (sndC (to_,f)).toArray)]) (cells:=sndC (to_,f)) rfl rfl rfl rfl yo (fill_one rfl rfl rfl)) rfl ?_ ?_)
 ·rintro _ _ ⟨nb,rfl,rfl⟩
  exact yu
 rintro _ _ ⟨nb,rfl,rfl⟩
 refine AG (AO (OpT.append (m:=1) (news:=sndC (to_,f)) 2 rfl rfl rfl rfl rfl rfl rfl (RdRow.pt 0 rfl rfl rfl) rfl (small_bytes (k:=1000001) yd yo) yd) rfl ?_ ?_)
 ·rintro _ _ ⟨a1,c1,rfl,hc1,rfl⟩
  exact yu
 rintro _ _ ⟨a1,c1,rfl,hc1,rfl⟩
 refine xfe ?_
 refine AG (VA.st 2 (cs':=[.slice a1 (S.length+1) c1]) rfl rfl rfl rfl rfl (Nat.le_of_ble_eq_true rfl) rfl rfl yu ?_)
 refine xfe ?_
 refine Ret.void rfl (Imp.out (S:=S ++ [(to_,f)]) (a1,c1) ?_).ent ⟨rfl,rfl⟩
 unfold outL
 rw[List.length_append,flat_append,flat_cons,flat_nil,List.append_nil]
 exact(pkZ [2,0])
structure RepM where
 id:Int
 clients:Int
 cap:Int
 most:Int
 ch:ChM
 since:Int
 whole:Bool
 log:List EntryM
 win:WinM
 adm:AdmM
 rds:RdsM
 start:Int
 base:Int
 linked:Bool
 have_:Int
structure RepS where
 a:Option Addr
 c:Nat
 lp:Nat
 wp:Nat
 ap:Nat
 rp:Nat
def repCs(R:RepM)(x:RepS):List Value:=[.int .i64 R.id,.int .i64 R.clients,.int .i64 R.cap,.int .i64 R.most,.int .i64 R.ch.epoch,.slice x.a R.ch.ms.length x.c,.int .i64 R.ch.drain,.int .i64 R.since,.bool R.whole,
 .pointer (some ⟨x.lp,0,none⟩),.pointer (some ⟨x.wp,0,none⟩),.pointer (some ⟨x.ap,0,none⟩),.pointer (some ⟨x.rp,0,none⟩),.int .i64 R.start,.int .i64 R.base,.bool R.linked,.int .i64 R.have_]
def repL(p:Nat)(R:RepM)(x:RepS):List HP:=[pt p (repCs R x) repT,slH memT 2 x.a R.ch.ms.length x.c (flat memC R.ch.ms),logH x.lp R.log,winH x.wp R.win,admH x.ap R.adm,rdsH x.rp R.rds]
def repH(p:Nat)(R:RepM):HP:=hex fun x=>hsep (repL p R x)
theorem HOpn.rep(p:Nat)(R:RepM):HOpn (ι:=RepS) (repH p R) (fun _=>True) (fun x=>repL p R x):=fun w ids ⟨x,h⟩ hn=>⟨x,trivial,ids,h,hn,fun _ h=>h⟩
theorem Imp.rep{p:Nat}{R:RepM}{L M:List HP}(x:RepS)(h:Imp L (repL p R x++M)):Imp L (repH p R::M):=
 Imp.ex (f:=fun x=>hsep (repL p R x)) x (Imp.sep (Ls:=repL p R x) h)
structure RepIn(Fr:Nat→Prop)(w:World)(p:Nat)(R:RepM)(x:RepS):Prop where
 blk:Blk Fr w p (repCs R x)
 mem:RwIn memC 2 Fr w x.a R.ch.ms
 log:SatIn Fr [logH x.lp R.log] w
 win:Blk Fr w x.wp R.win.cells
 adm:SatIn Fr [admH x.ap R.adm] w
 rds:SatIn Fr [rdsH x.rp R.rds] w
theorem RepIn.pcs{Fr:Nat→Prop}{w:World}{L:List HP}{p:Nat}{R:RepM}{x:RepS}(h:SatIn Fr L w)(i:Nat)(h0:L[i]?=some (pt p (repCs R x) repT))(h1:L[i+1]?=some (slH memT 2 x.a R.ch.ms.length x.c (flat memC R.ch.ms)))
  (h2:L[i+2]?=some (logH x.lp R.log)) (h3:L[i+3]?=some (winH x.wp R.win)) (h4:L[i+4]?=some (admH x.ap R.adm)) (h5:L[i+5]?=some (rdsH x.rp R.rds)):RepIn Fr w p R x:=
 ⟨h.blk i h0,RwIn.slH memC_len (h.at_ _ h1),h.at_ _ h2,h.blk _ h3,h.at_ _ h4,h.at_ _ h5⟩
theorem RepIn.of'{Fr:Nat→Prop}{w:World}{p:Nat}{R:RepM}(h:SatIn Fr [repH p R] w):∃x,RepIn Fr w p R x:=by
 obtain⟨x,h⟩:=h.ex
 exact⟨x,RepIn.pcs h.sep 0 rfl rfl rfl rfl rfl rfl⟩
theorem RepIn.of{X:Cx}{p:Nat}{R:RepM}{x:RepS}(h:RepIn X.Fr X.w0 p R x){Fr':Nat→Prop}{w:World}{L:List HP}(hF:∀b,X.Fr b→Fr' b)(hs:St X L w):RepIn Fr' w p R x:=
 ⟨h.blk.of hF hs,RwIn.of h.mem hF hs,h.log.of hF hs,h.win.of hF hs,h.adm.of hF hs,h.rds.of hF hs⟩
structure ChS(c:ChM):Prop where
 len:c.ms.length≤1000
section
variable {p:Nat} {R:RepM} {x:RepS} {b:Nat} {S:List SndM}
theorem made_spec(h:Blk Fr w p (repCs R x)):Tri Tryz.prog 57 [.pointer (some ⟨p,0,none⟩)] Fr w [] (fun v L=>v=.bool true∧L=[]):=by
 refine TF 12 Tryz.func57 rfl ym tabOk rfl rfl ?_
 refine xdf ?_
 refine VG (VO.split 5 rfl rfl (fun _=>?_) (fun h=>by cases h))
 refine xej ?_
 exact xep
def RepM.inB(R:RepM):Bool:=decide (0<R.since)
theorem in_spec(h:Blk Fr w p (repCs R x)):Tri Tryz.prog 161 [.pointer (some ⟨p,0,none⟩)] Fr w [] (fun v L=>v=.bool R.inB∧L=[]):=by
 refine TF 8 Tryz.func161 rfl ym tabOk rfl rfl ?_
 refine xej ?_
 exact xep
def RepM.knownB(R:RepM)(f:FrameM):Bool:=f.epoch == R.ch.epoch
theorem known_spec(h:Blk Fr w p (repCs R x))(f:FrameM)(m:MemG):Tri Tryz.prog 192 [.pointer (some ⟨p,0,none⟩),.agg (fgC f m).toArray] Fr w [] (fun v L=>v=.bool (R.knownB f)∧L=[]):=by
 refine TF 13 Tryz.func192 rfl ym tabOk rfl rfl ?_
 refine CS (CG (VG (VB (vs:=fgC f m) rfl fun fb=>VG (VN ?_))))
 refine CS (CD (ts 0 9 .nil) ym yr ?_)
 refine xhr ?_
 exact CR (Ret.bool 4 rfl rfl rfl Imp.nil.ent ⟨rfl,rfl⟩)
def isNodeB(from_ nb:Int):Bool:=decide (0≤nb)&&(from_ == nb)
theorem isNode_spec(f n:Int):Tri Tryz.prog 193 [.int .i64 f,.int .i64 n] Fr w [] (fun v L=>v=.bool (isNodeB f n)∧L=[]):=by
 refine TF 12 Tryz.func193 rfl ym tabOk rfl rfl ?_
 refine xdf ?_
 by_cases h1:0≤n
 ·refine VG (VY 7 true rfl (DT h1) ?_)
  refine xdn ?_
  exact CR (Ret.bool 4 rfl rfl (by rw[isNodeB,DT h1];rfl) ER ⟨rfl,rfl⟩)
 ·refine VG (VY 7 false rfl (DF h1) ?_)
  refine xdn ?_
  exact CR (Ret.bool 4 rfl rfl (by rw[isNodeB,DF h1];rfl) ER ⟨rfl,rfl⟩)
def RepM.prevM(R:RepM):Int:=prevOf R.ch R.id
def RepM.nextM(R:RepM):Int:=nextOf R.ch R.id
theorem prev_spec(h:Blk Fr w p (repCs R x))(hm:RwIn memC 2 Fr w x.a R.ch.ms)(hc:ChS R.ch):Tri Tryz.prog 194 [.pointer (some ⟨p,0,none⟩)] Fr w [] (fun v L=>v=.int .i64 R.prevM∧L=[]):=by
 have hcl:=hc.len
 refine TF 12 Tryz.func194 rfl ym tabOk rfl rfl ?_
 refine xet ?_
 refine CS (CD (ts 0 8 (.only 8 (.take 9 .nil))) ym yr ?_)
 refine xen ?_
 refine xhs ?_
 refine xen ?_
 refine AG (AR (fun Fr w hF hs hS=>Ch.prev_spec Fr w (hm.of hF hs) yd R.id) rfl rfl yav ?_)
 refine xeh ?_
 exact xfa
theorem next_spec(h:Blk Fr w p (repCs R x))(hm:RwIn memC 2 Fr w x.a R.ch.ms)(hc:ChS R.ch):Tri Tryz.prog 170 [.pointer (some ⟨p,0,none⟩)] Fr w [] (fun v L=>v=.int .i64 R.nextM∧L=[]):=by
 have hcl:=hc.len
 refine TF 12 Tryz.func170 rfl ym tabOk rfl rfl ?_
 refine xet ?_
 refine CS (CD (ts 0 8 (.only 8 (.take 9 .nil))) ym yr ?_)
 refine xen ?_
 refine xhs ?_
 refine xen ?_
 refine AG (AR (fun Fr w hF hs hS=>Ch.next_spec Fr w (hm.of hF hs) yd R.id) rfl rfl yav ?_)
 refine xeh ?_
 exact xfa
def RepM.headB(R:RepM):Bool:=R.inB&&(headOf R.ch == R.id)
def RepM.tailB(R:RepM):Bool:=R.inB&&(tailOf R.ch == R.id)
def RepM.drainsB(R:RepM):Bool:=R.inB&&(R.ch.drain == R.id)
theorem head_spec(h:Blk Fr w p (repCs R x))(hm:RwIn memC 2 Fr w x.a R.ch.ms)(hc:ChS R.ch):Tri Tryz.prog 115 [.pointer (some ⟨p,0,none⟩)] Fr w [] (fun v L=>v=.bool R.headB∧L=[]):=by
 have hcl:=hc.len
 refine TF 17 Tryz.func115 rfl ym tabOk rfl rfl ?_
 refine xet ?_
 refine xht ?_
 refine xhu ?_
 refine xeh ?_
 cases hi:R.inB with
 | true=>
  refine AG (AY 5 true rfl rfl ?_)
  refine xhv ?_
  refine xhs ?_
  refine xhv ?_
  refine AG (AR (fun Fr w hF hs hS=>Ch.head_spec Fr w (hm.of hF hs) yd) rfl rfl yav ?_)
  refine xeu ?_
  exact xhw
 | false=>
  refine AG (AY 5 false rfl rfl ?_)
  refine xhv ?_
  refine zpe ?_
  exact xhw
theorem tail_spec(h:Blk Fr w p (repCs R x))(hm:RwIn memC 2 Fr w x.a R.ch.ms)(hc:ChS R.ch):Tri Tryz.prog 234 [.pointer (some ⟨p,0,none⟩)] Fr w [] (fun v L=>v=.bool R.tailB∧L=[]):=by
 have hcl:=hc.len
 refine TF 17 Tryz.func234 rfl ym tabOk rfl rfl ?_
 refine xet ?_
 refine xht ?_
 refine xhu ?_
 refine xeh ?_
 cases hi:R.inB with
 | true=>
  refine AG (AY 5 true rfl rfl ?_)
  refine xhv ?_
  refine xhs ?_
  refine xhv ?_
  refine AG (AR (fun Fr w hF hs hS=>Ch.tail_spec Fr w (hm.of hF hs) yd) rfl rfl yav ?_)
  refine xeu ?_
  exact xhx
 | false=>
  refine AG (AY 5 false rfl rfl ?_)
  refine xhv ?_
  refine zpe ?_
  exact xhx
theorem drains_spec(h:Blk Fr w p (repCs R x)):Tri Tryz.prog 116 [.pointer (some ⟨p,0,none⟩)] Fr w [] (fun v L=>v=.bool R.drainsB∧L=[]):=by
 refine TF 17 Tryz.func116 rfl ym tabOk rfl rfl ?_
 refine xet ?_
 refine CS (CD (.take 0 (.only 1 (ts 2 13 .nil))) ym yr ?_)
 refine xhu ?_
 refine xeh ?_
 cases hi:R.inB with
 | true=>
  refine AG (AY 5 true rfl rfl ?_)
  refine xhv ?_
  exact xhy
 | false=>
  refine AG (AY 5 false rfl rfl ?_)
  refine xhv ?_
  exact xhy
end
end Rep
namespace Rep
open Go Vg T Api Kv Ch Lg Rd Win Adm
attribute [local irreducible] VO VC VA
def replyF(client seq try_:Int)(r:ResM):FrameM:={ FrameM.zero with kind:=2,client:=client,seq:=seq,try_:=try_,res:=r }
def refuseF(epoch:Int)(f:FrameM)(reason:Int):FrameM:={ FrameM.zero with kind:=3,epoch:=epoch,client:=f.client,seq:=f.seq,try_:=f.try_,reason:=reason }
def ackF(epoch i g h:Int):FrameM:={ FrameM.zero with kind:=5,epoch:=epoch,index:=i,grant:=g,have_:=h }
def baseF(epoch i:Int):FrameM:={ FrameM.zero with kind:=6,epoch:=epoch,index:=i }
def aliveF(epoch i:Int):FrameM:={ FrameM.zero with kind:=11,epoch:=epoch,index:=i }
section
variable {p:Nat} {R:RepM} {x:RepS} {b:Nat} {S:List SndM}
theorem reply_spec(hS:S.length≤1000000)(client seq try_:Int)(hc0:0≤client)(hc1:client≤1000000)(r:ResM):Tri Tryz.prog 199 [.int .i64 client,.int .i64 seq,.int .i64 try_,.agg (resC r).toArray,sendF b] Fr w [outH b S]
  (fun v L=>v=.tuple #[]∧L=[outH b (S ++ [(32+client,replyF client seq try_ r)])]):=by
 refine TF 19 Tryz.func199 rfl ym tabOk rfl rfl ?_
 refine CS (CG (VG (VB (vs:=resC r) rfl fun rb=>?_)))
 refine zoo ?_
 refine VG (VL 0 (resC r) rfl rfl rfl rfl ?_)
 refine VG (VI (LB (pv:=[(0,.int .i64 2),(2,.int .i64 client),(3,.int .i64 seq),(4,.int .i64 try_),(8,.agg (resC r).toArray)]) (fgC (replyF client seq try_ r) mem0) rfl rfl rfl ym rfl) ?_)
 refine VG (VO.callFAt 1 rfl rfl (fun Fr w hF hs _=>add_spec Fr w b S hS (32+client) (replyF client seq try_ r)) rfl (ψ:=fun v H=>v=.tuple #[]∧H=outH b (S ++ [(32+client,replyF client seq try_ r)])) yy ?_)
 rintro _ _ ⟨rfl,rfl⟩
 refine xdf ?_
 exact xhz
theorem refuse_spec(h:Blk Fr w p (repCs R x))(hS:S.length≤1000000)(f:FrameM)(m:MemG)(hc0:0≤f.client)(hc1:f.client≤1000000)(reason:Int):Tri Tryz.prog 114 [.pointer (some ⟨p,0,none⟩),.agg (fgC f m).toArray,.int .i64 reason,sendF b] Fr w [outH b S]
  (fun v L=>v=.tuple #[]∧L=[outH b (S ++ [(32+f.client,refuseF R.ch.epoch f reason)])]):=by
 refine TF 26 Tryz.func114 rfl ym tabOk rfl rfl ?_
 refine CS (CG (VG (VB (vs:=fgC f m) rfl fun fb=>VG (VN ?_))))
 refine CD (ts 0 17 (.only 17 .nil)) ym yr ?_
 refine xhr ?_
 refine xeo ?_
 refine xhr ?_
 refine AG (AI rfl (LB (pv:=[(0,.int .i64 3),(1,.int .i64 R.ch.epoch),(2,.int .i64 f.client),(3,.int .i64 f.seq),(4,.int .i64 f.try_),(9,.int .i64 reason)]) (fgC (refuseF R.ch.epoch f reason) mem0) rfl rfl rfl ym rfl) ?_)
 refine AG (VA.callFAt 1 rfl rfl (fun Fr w hF hs _=>add_spec Fr w b S hS (32+f.client) (refuseF R.ch.epoch f reason)) rfl rfl (ψ:=fun v H=>v=.tuple #[]∧H=outH b (S ++ [(32+f.client,refuseF R.ch.epoch f reason)])) yy ?_ ?_)
 ·rintro _ _ ⟨rfl,rfl⟩
  exact(by(try refine Pd.st ?_);(repeat(first|exact Pd.nil|exact Pd.fnil|refine Pd.inner ?_|refine Pd.skip yr ?_|refine zf (zo 0 rfl rfl) ?_|refine zf (zm 0 rfl rfl) ?_|refine zf (RdL.blk (RdL.blk h rfl) rfl) ?_|refine zf ((RdL.blk h rfl)) ?_|refine zc (zo 0 rfl rfl) ?_|refine zc (zm 0 rfl rfl) ?_|refine zc (RdL.blk (RdL.blk h rfl) rfl) ?_|refine zc ((RdL.blk h rfl)) ?_)))
 rintro _ _ ⟨rfl,rfl⟩
 refine xeh ?_
 exact xhz
def RepM.greetM(R:RepM):List SndM:=if R.prevM<0 then [] else [(R.prevM,ackF R.ch.epoch R.win.done (if R.drainsB then R.win.last else R.win.done+R.win.cap) R.win.last)]
theorem greet_spec(h:RepIn Fr w p R x)(hc:ChS R.ch)(hw:R.win.Ok)(hS:S.length≤1000000):Tri Tryz.prog 173 [.pointer (some ⟨p,0,none⟩),sendF b] Fr w [outH b S] (fun v L=>v=.tuple #[]∧L=[outH b (S++R.greetM)]):=by
 have hb:=h.blk
 have w0:=hw.cap0
 refine TF 42 Tryz.func173 rfl ym tabOk rfl rfl ?_
 refine xdf ?_
 refine VG (VV (fun Fr w hF hs _=>Rep.prev_spec Fr w (h.of hF hs).blk (h.of hF hs).mem hc) rfl ?_)
 refine xdf ?_
 refine CP rfl (fun h1=>?_) (fun h1=>CK ?_)
 ·exact CR (Ret.void rfl ER ⟨rfl,by rw[RepM.greetM,if_pos h1,List.append_nil]⟩)
 refine xdi ?_
 refine VG (VV (fun Fr w hF hs _=>Win.offer_spec Fr w (h.of hF hs).win hw) rfl ?_)
 refine VG (VN (CS ?_))
 refine VC.meetS (σ:=Unit) (fun _=>[(0,pV p),(1,sendF b),(4,.int .i64 R.prevM),(5,.int .i64 (if R.drainsB then R.win.last else R.win.done+R.win.cap))]) (fun _=>[outH b S]) (fun _=>True) ?_ ?_
 ·refine xdf ?_
  refine VG (VV (fun Fr w hF hs _=>drains_spec Fr w (h.of hF hs).blk) rfl ?_)
  refine xdf ?_
  refine CC rfl (fun hd=>?_) (fun hd=>CK ?_)
  ·refine xdi ?_
   refine VG (VV (fun Fr w hF hs _=>Win.last_spec Fr w (h.of hF hs).win w0) rfl ?_)
   refine xdf ?_
   exact xia
  ·exact xia
 rintro _ -
 refine CD (ts 0 11 (ts 12 5 (.only 11 (.only 17 (.take 18 (.only 19 .nil)))))) ym yr ?_
 refine xfk ?_
 refine AG (AR (fun Fr w hF hs hS=>Win.done_spec Fr w (h.of hF hs).win w0) rfl rfl yx ?_)
 refine AG (AR (fun Fr w hF hs hS=>Win.last_spec Fr w (h.of hF hs).win w0) rfl rfl yx ?_)
 refine AG (AI rfl (LB (pv:=[(0,.int .i64 5),(1,.int .i64 R.ch.epoch),(12,.int .i64 R.win.done),(13,.int .i64 (if R.drainsB then R.win.last else R.win.done+R.win.cap)),(14,.int .i64 R.win.last)]) (fgC (ackF R.ch.epoch R.win.done (if R.drainsB then R.win.last else R.win.done+R.win.cap) R.win.last) mem0) rfl rfl rfl ym rfl) ?_)
 refine AG (VA.callFAt 0 rfl rfl (fun Fr w hF hs _=>add_spec Fr w b S hS R.prevM (ackF R.ch.epoch R.win.done (if R.drainsB then R.win.last else R.win.done+R.win.cap) R.win.last)) rfl rfl (ψ:=fun v H=>v=.tuple #[]∧H=outH b (S ++ [(R.prevM,ackF R.ch.epoch R.win.done (if R.drainsB then R.win.last else R.win.done+R.win.cap) R.win.last)])) yy ?_ ?_)
 ·rintro _ _ ⟨rfl,rfl⟩
  exact yx
 rintro _ _ ⟨rfl,rfl⟩
 refine xeh ?_
 exact Ret.void rfl ER ⟨rfl,by rw[RepM.greetM,if_neg h1];rfl⟩
def RepM.baseM(R:RepM):List SndM:=if R.whole=true∧0≤R.nextM then [(R.nextM,baseF R.ch.epoch R.start)] else []
theorem tellBase_spec(h:RepIn Fr w p R x)(hc:ChS R.ch)(hS:S.length≤1000000):Tri Tryz.prog 174 [.pointer (some ⟨p,0,none⟩),sendF b] Fr w [outH b S] (fun v L=>v=.tuple #[]∧L=[outH b (S++R.baseM)]):=by
 have hb:=h.blk
 refine TF 28 Tryz.func174 rfl ym tabOk rfl rfl ?_
 refine xdf ?_
 refine VG (VV (fun Fr w hF hs _=>Rep.next_spec Fr w (h.of hF hs).blk (h.of hF hs).mem hc) rfl ?_)
 refine xdi ?_
 cases hwh:R.whole with
 | false=>
  refine VG (VY 11 false rfl rfl ?_)
  refine xib ?_
  refine xdy ?_
  exact Ret.void rfl ER ⟨rfl,by rw[RepM.baseM,if_neg (by rw[hwh];simp),List.append_nil]⟩
 | true=>
  refine VG (VY 11 true rfl rfl ?_)
  refine xib ?_
  refine CP rfl (fun h1=>?_) (fun h1=>CK ?_)
  ·refine CD (ts 0 12 (.only 12 .nil)) ym yr ?_
   refine xfk ?_
   refine AG (AI rfl (LB (pv:=[(0,.int .i64 6),(1,.int .i64 R.ch.epoch),(12,.int .i64 R.start)]) (fgC (baseF R.ch.epoch R.start) mem0) rfl rfl rfl ym rfl) ?_)
   refine AG (VA.callFAt 0 rfl rfl (fun Fr w hF hs _=>add_spec Fr w b S hS R.nextM (baseF R.ch.epoch R.start)) rfl rfl (ψ:=fun v H=>v=.tuple #[]∧H=outH b (S ++ [(R.nextM,baseF R.ch.epoch R.start)])) yy ?_ ?_)
   ·rintro _ _ ⟨rfl,rfl⟩
    exact yx
   rintro _ _ ⟨rfl,rfl⟩
   refine xeh ?_
   exact Ret.void rfl ER ⟨rfl,by rw[RepM.baseM,if_pos ⟨hwh,h1⟩];rfl⟩
  ·exact Ret.void rfl ER ⟨rfl,by rw[RepM.baseM,if_neg (fun h=>h1 h.2),List.append_nil]⟩
def RepM.masterM(R:RepM):List SndM:=[(16,aliveF R.ch.epoch (if R.whole then 1 else 0))]
theorem tellMaster_spec(hb:Blk Fr w p (repCs R x))(hS:S.length≤1000000):Tri Tryz.prog 172 [.pointer (some ⟨p,0,none⟩),sendF b] Fr w [outH b S] (fun v L=>v=.tuple #[]∧L=[outH b (S++R.masterM)]):=by
 refine TF 19 Tryz.func172 rfl ym tabOk rfl rfl ?_
 refine xdi ?_
 refine VG (VI (LB (pv:=[(0,.int .i64 11),(1,.int .i64 R.ch.epoch)]) (fgC (aliveF R.ch.epoch 0) mem0) rfl rfl rfl ym rfl) ?_)
 refine VG (VO.alloc rfl fun fb=>?_)
 refine VG (VT (vs:=fgC (aliveF R.ch.epoch 0) mem0) 0 rfl rfl rfl rfl (NR _) rfl rfl rfl ?_)
 refine VG (VN (CS ?_))
 refine VC.meetS (σ:=Unit) (fun _=>[(1,sendF b),(4,pV fb)]) (fun _=>[pt fb (fgC (aliveF R.ch.epoch (if R.whole then 1 else 0)) mem0) frT,outH b S]) (fun _=>True) ?_ ?_
 ·refine xdi ?_
  refine CC rfl (fun hd=>?_) (fun hd=>CK ?_)
  ·refine xdf ?_
   refine VG (VO.st 0 (cs':=fgC (aliveF R.ch.epoch 1) mem0) rfl rfl rfl rfl (Nat.le_of_ble_eq_true rfl) rfl rfl ?_)
   refine xdf ?_
   exact⟨(),trivial,sbZ,by rw[hd];exact ER⟩
  ·exact⟨(),trivial,sbZ,by rw[hd];exact ER⟩
 rintro _ -
 refine xdf ?_
 refine VG (VL 0 (fgC (aliveF R.ch.epoch (if R.whole then 1 else 0)) mem0) rfl rfl rfl rfl ?_)
 refine VG (VO.callFAt 1 rfl rfl (fun Fr w hF hs _=>add_spec Fr w b S hS 16 (aliveF R.ch.epoch (if R.whole then 1 else 0))) rfl (ψ:=fun v H=>v=.tuple #[]∧H=outH b (S++R.masterM)) yy ?_)
 rintro _ _ ⟨rfl,rfl⟩
 refine xdf ?_
 exact xhz
end
end Rep
namespace Rep
open Go Vg T Api Kv Ch Lg Rd Win Adm
attribute [local irreducible] VO VC VA
structure RepM.Ok(R:RepM):Prop where
 ch:ChS R.ch
 win:R.win.Ok
 last:R.win.last=R.log.length
 logc:∀e∈R.log,0≤e.client∧e.client<6
 logi:∀e∈R.log,1≤e.index∧e.index≤R.log.length
 rc0:1≤R.rds.cap
 rc1:R.rds.cap≤16
 rl:(R.rds.l.length:Int)≤R.rds.cap
 rn0:0≤R.rds.last
 rn1:R.rds.last≤100000000
 rcl:∀y∈R.rds.l,0≤y.f.client∧y.f.client≤1000
 calls:R.adm.Calls
 wf:R.adm.Wf
theorem lastOf_mem(es:List EntryM)(c:Int):lastOf es c=(0,0)∨∃e∈es,lastOf es c=(e.seq,e.index)∧e.client=c:=by
 have:∀(es:List EntryM) (p:Int×Int),es.foldl (lastStep c) p=p∨∃e∈es,es.foldl (lastStep c) p=(e.seq,e.index)∧e.client=c:=by
  intro es
  induction es with
  | nil=>intro p;exact .inl rfl
  | cons e es ih=>
   intro p
   rw[List.foldl_cons]
   rcases ih (lastStep c p e) with h | ⟨d,hd,h,h2⟩
   ·rw[h]
    unfold lastStep
    split
    ·exact .inr ⟨e,by simp,rfl,by assumption⟩
    ·exact .inl rfl
   ·exact .inr ⟨d,by simp[hd],h,h2⟩
 exact this es (0,0)
theorem RepM.Ok.lasti{R:RepM}(h:R.Ok)(c:Int):0≤(lastR R.log c).2∧(lastR R.log c).2≤R.log.length:=by
 unfold lastR
 split
 ·rcases lastOf_mem R.log c with h1 | ⟨e,he,h1,_⟩
  ·rw[h1];exact⟨Int.le_refl _,by simp⟩
  ·rw[h1];have:=h.logi e he;exact⟨by show 0≤e.index;omega,this.2⟩
 ·exact⟨Int.le_refl _,by simp⟩
def repO(p:Nat)(R:RepM)(x:RepS)(b:Nat)(S:List SndM):List HP:=[pt p (repCs R x) repT,slH memT 2 x.a R.ch.ms.length x.c (flat memC R.ch.ms),logH x.lp R.log,winH x.wp R.win,admH x.ap R.adm,rdsH x.rp R.rds,outH b S]
theorem repO_shut{p:Nat}{R:RepM}{x:RepS}{b:Nat}{S:List SndM}:Imp (repO p R x b S) [repH p R,outH b S]:=Imp.rep x (pkZ [0,0,0,0,0,0,0])
def replyOf(R:RepM)(i:Int):SndM:=(32+((atI R.log i).getD entZ).client,replyF ((atI R.log i).getD entZ).client ((atI R.log i).getD entZ).seq 0 ((atI (logRun R.log).2 i).getD resZ))
def replies(R:RepM)(k:Nat):List SndM:=(List.range k).map fun j=>replyOf R (R.win.done+1+(j:Nat))
def RepM.finishM(R:RepM):List SndM:=if R.tailB then replies R (R.win.last-R.win.done).toNat else []
def RepM.finishR(R:RepM):RepM:=if R.tailB then { R with win:=R.win.ack R.win.last } else R
section
variable {p:Nat} {R:RepM} {b:Nat} {S:List SndM}
theorem finish_spec(ok:R.Ok)(hS:S.length≤900000):Tri Tryz.prog 169 [.pointer (some ⟨p,0,none⟩),sendF b] Fr w [repH p R,outH b S] (fun v L=>v=.tuple #[]∧L=[repH p R.finishR,outH b (S++R.finishM)]):=by
 have w0:=ok.win.cap0
 have d0:=ok.win.done0;have d1:=ok.win.done1;have d2:=ok.win.last1
 refine TF 62 Tryz.func169 rfl ym tabOk rfl rfl ?_
 refine xic ?_
 rintro x -
 show VC _ _ _ (repO p R x b S) _
 unfold repO
 refine xdf ?_
 refine xid ?_
 refine xdf ?_
 refine VC.condN rfl (fun ht=>?_) (fun ht=>CK ?_)
 ·exact CR (Ret.void rfl repO_shut.ent ⟨rfl,by rw[RepM.finishR,RepM.finishM,ht];simp⟩)
 refine xdf ?_
 refine xie ?_
 refine xdf ?_
 refine xif ?_
 refine xdf ?_
 refine VG (VQ 3 rfl (fun Fr w hF hs hS=>Win.ack_spec Fr w ok.win R.win.last) rfl (ψ:=fun v H=>v=.bool (R.win.ackB R.win.last)∧H=winH x.wp (R.win.ack R.win.last)) yy ?_)
 rintro _ _ ⟨rfl,rfl⟩
 refine zor ?_
 refine VC.loop (σ:=Nat) (fun k=>[(0,pV p),(1,sendF b),(5,.int .i64 R.win.last),(6,.int .i64 (R.win.done+1+(k:Nat)))])
  (fun k=>[pt p (repCs R x) repT,slH memT 2 x.a R.ch.ms.length x.c (flat memC R.ch.ms),logH x.lp R.log,winH x.wp (R.win.ack R.win.last),admH x.ap R.adm,rdsH x.rp R.rds,outH b (S++replies R k)])
  (fun k=>k≤(R.win.last-R.win.done).toNat) (fun k=>(R.win.last-R.win.done).toNat-k) 0
  (Nat.zero_le _) (SC rfl (SC rfl (SC rfl (Sub.int rfl yf (SN _))))) (by rw[show replies R 0=[] from rfl,List.append_nil];exact ER) ?_
 intro k hk
 have hrl:(replies R k).length=k:=by simp[replies]
 refine xdf ?_
 refine CP rfl (fun h1=>CK ?_) (fun h1=>CX ?_)
 ·obtain⟨j,e,hj1,hj2,hj3,hj4⟩:=atI_some (l:=R.log) (i:=R.win.done+1+(k:Nat)) yd (by have:=ok.last;omega)
  have hcl:=ok.logc e (ME hj3)
  refine xdf ?_
  refine VG (VV (fun Fr w hF hs hS=>Lg.at_spec Fr w (hS.at_ 2 rfl) (R.win.done+1+(k:Nat)) yd yd) rfl ?_)
  refine xdf ?_
  refine VG (VO.alloc rfl fun eb=>?_)
  refine VG (VT (vs:=entC ((atI R.log (R.win.done+1+(k:Nat))).getD entZ)) 0 rfl rfl rfl rfl (NR _) rfl rfl rfl ?_)
  refine xds ?_
  refine VG (VV (fun Fr w hF hs hS=>Lg.result_spec Fr w (hS.at_ 3 rfl) (R.win.done+1+(k:Nat)) yd yd) rfl ?_)
  refine xds ?_
  refine VG (VO.alloc rfl fun rb=>?_)
  refine VG (VT (vs:=resC ((atI (logRun R.log).2 (R.win.done+1+(k:Nat))).getD resZ)) 0 rfl rfl rfl rfl (NR _) rfl rfl rfl ?_)
  refine xds ?_
  refine VG (VL 0 (resC ((atI (logRun R.log).2 (R.win.done+1+(k:Nat))).getD resZ)) rfl rfl rfl rfl ?_)
  refine VG (VQ 8 rfl (fun Fr w hF hs hS=>reply_spec Fr w (by rw[List.length_append,hrl];omega) ((atI R.log (R.win.done+1+(k:Nat))).getD entZ).client ((atI R.log (R.win.done+1+(k:Nat))).getD entZ).seq 0 (by rw[hj4];exact hcl.1) (by rw[hj4];have:=hcl.2;show e.client≤_;omega) ((atI (logRun R.log).2 (R.win.done+1+(k:Nat))).getD resZ)) rfl (ψ:=fun v H=>v=.tuple #[]∧H=outH b (S++replies R k ++ [replyOf R (R.win.done+1+(k:Nat))])) yy ?_)
  rintro _ _ ⟨rfl,rfl⟩
  refine zor ?_
  refine⟨k+1,by omega,by dsimp only;omega,SC rfl (SC rfl (SC rfl (Sub.int rfl (by push_cast;omega) (SN _)))),?_⟩
  dsimp only
  rw[show replies R (k+1)=replies R k ++ [replyOf R (R.win.done+1+(k:Nat))] by simp[replies,List.range_succ],←List.append_assoc]
  exact(pkZ [2,2,2,2,2,2,2]).ent
 ·obtain rfl:k=(R.win.last-R.win.done).toNat:=by omega
  exact Ret.void rfl (Imp.rep (R:={ R with win:=R.win.ack R.win.last }) x (IP 0 rfl (IP 0 rfl (IP 0 rfl (IP 0 rfl (IP 0 rfl (IP 0 rfl (IP 0 rfl Imp.nil)))))))).ent ⟨rfl,by rw[RepM.finishR,RepM.finishM,ht];simp⟩
def RepM.becomeB(R:RepM):Bool:=R.inB&&(!R.whole&&(decide (R.base≠-1)&&decide (R.base≤R.win.last)))
def RepM.becomeR(R:RepM):RepM:=if R.becomeB then { R with whole:=true,start:=R.win.last } else R
def RepM.becomeM(R:RepM):List SndM:=if R.becomeB then R.becomeR.baseM else []
theorem become_spec(ok:R.Ok)(hS:S.length≤900000):Tri Tryz.prog 197 [.pointer (some ⟨p,0,none⟩),sendF b] Fr w [repH p R,outH b S] (fun v L=>v=.tuple #[]∧L=[repH p R.becomeR,outH b (S++R.becomeM)]):=by
 have w0:=ok.win.cap0
 refine TF 46 Tryz.func197 rfl ym tabOk rfl rfl ?_
 refine xic ?_
 rintro x -
 show VC _ _ _ (repO p R x b S) _
 refine CS (CS ?_)
 have S3:∀{E:Env} {t:Bool},Vg.look E 31=some (.bool t)→t=(!R.becomeB)→Vg.look E 0=some (.pointer (some ⟨p,0,none⟩))→Vg.look E 1=some (sendF b)→Sub [(0,pV p),(1,sendF b),(31,.bool (!R.becomeB))] E:=fun h0 h1 h2 h3=>SC h2 (SC h3 (Sub.bl h0 h1 (SN _)))
 refine VC.meetS (σ:=Unit) (fun _=>[(0,pV p),(1,sendF b),(31,.bool (!R.becomeB))]) (fun _=>repO p R x b S) (fun _=>True) ?_ ?_
 ·refine CD (.take 0 (.only 1 (ts 2 19 (ts 22 4 (.only 21 (ts 26 2 .nil)))))) ym yr ?_
  refine AG (AR (fun Fr w hF hs hS=>in_spec Fr w (RepIn.pcs hS 0 rfl rfl rfl rfl rfl rfl).blk) rfl rfl yu ?_)
  refine xeh ?_
  cases h1:R.inB with
  | false=>
   refine AG (AY 7 true rfl rfl ?_)
   refine xeu ?_
   refine AG (AY 13 true rfl rfl ?_)
   refine xeu ?_
   refine AG (AY 20 true rfl rfl ?_)
   refine zpy ?_
   exact⟨(),trivial,S3 rfl (by rw[RepM.becomeB,h1];rfl) rfl rfl,ER⟩
  | true=>
  refine AG (AY 7 false rfl rfl ?_)
  refine xeu ?_
  cases h2:R.whole with
  | true=>
   refine AG (AY 13 true rfl rfl ?_)
   refine xeu ?_
   refine AG (AY 20 true rfl rfl ?_)
   refine zpy ?_
   exact⟨(),trivial,S3 rfl (by rw[RepM.becomeB,h1,h2];rfl) rfl rfl,ER⟩
  | false=>
  have q8:(repCs R x)[0+8]?=some (.bool false):=by show some (Value.bool R.whole)=_;rw[h2]
  refine AG (AY 13 false rfl rfl ?_)
  refine xeu ?_
  by_cases h3:R.base=-1
  ·refine AG (AY 20 true rfl (by simp[h3]) ?_)
   refine zpy ?_
   exact⟨(),trivial,S3 rfl (by rw[RepM.becomeB,h1,h2,h3];rfl) rfl rfl,ER⟩
  refine AG (AY 20 false rfl (by simp[h3]) ?_)
  refine xeu ?_
  refine AG (AR (fun Fr w hF hs hS=>Win.last_spec Fr w (RepIn.pcs hS 0 rfl rfl rfl rfl rfl rfl).win w0) rfl rfl (by(try refine Pd.st ?_);(repeat(first|exact Pd.nil|exact Pd.fnil|refine Pd.inner ?_|refine Pd.skip yr ?_|refine zf (zo 0 rfl rfl) ?_|refine zf (zm 0 rfl rfl) ?_|refine zf (RdL.blk (RdL.one 0 rfl q8) rfl) ?_|refine zf ((RdL.one 0 rfl q8)) ?_|refine zc (zo 0 rfl rfl) ?_|refine zc (zm 0 rfl rfl) ?_|refine zc (RdL.blk (RdL.one 0 rfl q8) rfl) ?_|refine zc ((RdL.one 0 rfl q8)) ?_))) ?_)
  refine xeu ?_
  exact⟨(),trivial,S3 rfl (by
   rw[RepM.becomeB,h1,h2,DT (show R.base≠-1 from h3)]
   by_cases h4:R.win.last<R.base
   ·rw[DT h4,DF (show ¬R.base≤R.win.last by omega)];rfl
   ·rw[DF h4,DT (show R.base≤R.win.last by omega)];rfl) rfl rfl,ER⟩
 rintro _ -
 refine VC.condN rfl (fun hb=>?_) (fun hb=>CK ?_)
 ·exact CR (Ret.void rfl repO_shut.ent ⟨rfl,by rw[RepM.becomeR,RepM.becomeM,hb];simp⟩)
 have hbR:R.becomeR={ R with whole:=true,start:=R.win.last }:=by rw[RepM.becomeR,hb];rfl
 have hbM:R.becomeM=R.becomeR.baseM:=by rw[RepM.becomeM,hb];rfl
 unfold repO
 refine xdf ?_
 refine VG (VO.st 0 (cs':=repCs { R with whole:=true } x) rfl rfl rfl rfl (Nat.le_of_ble_eq_true rfl) rfl rfl ?_)
 refine xdf ?_
 refine xif ?_
 refine VG (VO.st 0 (cs':=repCs { R with whole:=true,start:=R.win.last } x) rfl rfl rfl rfl (Nat.le_of_ble_eq_true rfl) rfl rfl ?_)
 refine xdf ?_
 refine VG (VQ 6 rfl (fun Fr w hF hs hS=>tellBase_spec (R:={ R with whole:=true,start:=R.win.last }) Fr w (RepIn.pcs hS 0 rfl rfl rfl rfl rfl rfl) ok.ch yd) rfl (ψ:=fun v H=>v=.tuple #[]∧H=outH b (S++RepM.baseM { R with whole:=true,start:=R.win.last })) yy ?_)
 rintro _ _ ⟨rfl,rfl⟩
 refine xdf ?_
 exact Ret.void rfl (repO_shut (R:={ R with whole:=true,start:=R.win.last }) (x:=x)).ent ⟨rfl,by rw[hbM,hbR]⟩
end
end Rep
namespace Rep
open Go Vg T Api Kv Ch Lg Rd Win Adm
attribute [local irreducible] VO VC VA
def judgeM(R:RepM)(f:FrameM)(now:Int):Int×ResM×AdmM:=
 if R.adm.may f=false then (10,resZ,R.adm)
 else if R.adm.barred f.client f.seq f.try_=true then (7,resZ,R.adm)
 else if R.knownB f=false then (5,resZ,R.adm)
 else if R.headB=false then (4,resZ,R.adm)
 else if R.whole=false then (8,resZ,R.adm)
 else if R.drainsB=true then (3,resZ,R.adm)
 else if f.seq=(lastR R.log f.client).1∧R.win.done<(lastR R.log f.client).2 then (6,resZ,R.adm)
 else if f.seq=(lastR R.log f.client).1 then (0,(atI (logRun R.log).2 (lastR R.log f.client).2).getD resZ,R.adm)
 else if f.seq<(lastR R.log f.client).1 then (7,resZ,R.adm)
 else if 4096≤R.log.length then (1,resZ,R.adm)
 else ((R.adm.offerM f now).1,resZ,(R.adm.offerM f now).2)
section
variable {p:Nat} {R:RepM}
theorem judge_spec(ok:R.Ok)(f:FrameM)(m:MemG)(hmm:MIn Fr w m)(now:Int):Tri Tryz.prog 249 [.pointer (some ⟨p,0,none⟩),.agg (fmc (f,m)).toArray,.int .i64 now] Fr w [repH p R]
  (fun v L=>v=.tuple #[.int .i64 (judgeM R f now).1,.agg (resC (judgeM R f now).2.1).toArray]∧L=[repH p { R with adm:=(judgeM R f now).2.2 }]):=by
 have w0:=ok.win.cap0
 refine TF 116 Tryz.func249 rfl ym tabOk rfl rfl ?_
 refine CS (CG (VG (VB (vs:=fmc (f,m)) rfl fun fb=>?_)))
 refine VG (VO.alloc rfl fun rb=>VG (VN ?_))
 refine VC.opn 2 rfl (HOpn.rep p R) ?_
 rintro x -
 have fin:∀{X:Cx} {fn:Func} {E:Env} (z:Int) (rr:ResM) (A':AdmM),fn.results=#[.tmp 6,.cell 7 resT]→tyLook X.tab resT=some T.t154→Vg.look E 6=some (.int .i64 z)→Vg.look E 7=some (.pointer (some ⟨rb,0,none⟩))→judgeM R f now=(z,rr,A') →
   Ret X fn (fun v L=>v=.tuple #[.int .i64 (judgeM R f now).1,.agg (resC (judgeM R f now).2.1).toArray]∧L=[repH p { R with adm:=(judgeM R f now).2.2 }]) E [pt p (repCs R x) repT,slH memT 2 x.a R.ch.ms.length x.c (flat memC R.ch.ms),logH x.lp R.log,winH x.wp R.win,admH x.ap A',rdsH x.rp R.rds,pt rb (resC rr) resT,pt fb (fmc (f,m)) frT]:=fun z rr A' hr hT h4 h5 hj=>
  Ret.tmpCell 6 7 hr h4 h5 hT (RdL.many (ds:=resC rr) 6 rfl rfl) (Imp.rep (R:={ R with adm:=A' }) x (IP 0 rfl (IP 0 rfl (IP 0 rfl (IP 0 rfl (IP 0 rfl (IP 0 rfl Imp.nil))))))).ent ⟨by rw[hj],by rw[hj]⟩
 show VC _ _ _ [pt p (repCs R x) repT,slH memT 2 x.a R.ch.ms.length x.c (flat memC R.ch.ms),logH x.lp R.log,winH x.wp R.win,admH x.ap R.adm,rdsH x.rp R.rds,pt rb (resC resZ) resT,pt fb (fmc (f,m)) frT] _
 refine CS (VC.block ?_)
 refine CS (CD (ts 0 5 (.only 5 (ts 6 2 .nil))) ym yr ?_)
 refine xig ?_
 refine AG (VA.ldA 7 (fmc (f,m)) rfl rfl rfl rfl rfl ?_)
 refine AG (AR (fun Fr w hF hs hS=>may_spec Fr w (f,m) (hS.at_ 4 rfl)) rfl rfl yu ?_)
 refine xeh ?_
 refine VC.condN rfl (fun h1=>?_) (fun h1=>?_)
 ·refine zpl ?_
  exact CR (fin 10 resZ R.adm rfl rfl rfl rfl (by rw[judgeM,if_pos h1]))
 have k1:¬R.adm.may f=false:=by rw[h1];simp
 refine CS (CD (ts 0 10 (.only 10 (.take 11 .nil))) ym yr ?_)
 refine xig ?_
 refine AG (AR (fun Fr w hF hs hS=>barred_spec Fr w f.client f.seq f.try_ (hS.at_ 4 rfl)) rfl rfl yu ?_)
 refine xeh ?_
 refine CC rfl (fun h2=>?_) (fun h2=>?_)
 ·refine zpl ?_
  exact CR (fin 7 resZ R.adm rfl rfl rfl rfl (by rw[judgeM,if_neg k1,if_pos h2]))
 have k2:¬R.adm.barred f.client f.seq f.try_=true:=by rw[h2];simp
 refine xik ?_
 refine VG (VL 7 (fmc (f,m)) rfl rfl rfl rfl ?_)
 refine VG (VV (fun Fr w hF hs hS=>known_spec Fr w (hS.blk 0 rfl) f m) rfl ?_)
 refine xdf ?_
 refine VC.condN rfl (fun h3=>?_) (fun h3=>?_)
 ·refine zpl ?_
  exact CR (fin 5 resZ R.adm rfl rfl rfl rfl (by rw[judgeM,if_neg k1,if_neg k2,if_pos h3]))
 have k3:¬R.knownB f=false:=by rw[h3];simp
 refine xdf ?_
 refine VG (VV (fun Fr w hF hs hS=>head_spec Fr w (hS.blk 0 rfl) (RwIn.slH memC_len (hS.at_ 1 rfl)) ok.ch) rfl ?_)
 refine xdf ?_
 refine VC.condN rfl (fun h4=>?_) (fun h4=>?_)
 ·refine zpl ?_
  exact CR (fin 4 resZ R.adm rfl rfl rfl rfl (by rw[judgeM,if_neg k1,if_neg k2,if_neg k3,if_pos h4]))
 have k4:¬R.headB=false:=by rw[h4];simp
 refine xdf ?_
 refine VC.condN rfl (fun h5=>?_) (fun h5=>?_)
 ·refine zpl ?_
  exact CR (fin 8 resZ R.adm rfl rfl rfl rfl (by rw[judgeM,if_neg k1,if_neg k2,if_neg k3,if_neg k4,if_pos h5]))
 have k5:¬R.whole=false:=by rw[h5];simp
 refine xdf ?_
 refine VG (VV (fun Fr w hF hs hS=>drains_spec Fr w (hS.blk 0 rfl)) rfl ?_)
 refine xdf ?_
 refine CC rfl (fun h6=>?_) (fun h6=>CK ?_)
 ·refine zpl ?_
  exact CR (fin 3 resZ R.adm rfl rfl rfl rfl (by rw[judgeM,if_neg k1,if_neg k2,if_neg k3,if_neg k4,if_neg k5,if_pos h6]))
 have k6:¬R.drainsB=true:=by rw[h6];simp
 refine CS (CD (ts 0 6 (.only 6 (ts 7 5 .nil))) ym yr ?_)
 refine xig ?_
 refine AG (AR (fun Fr w hF hs hS=>Lg.last_spec Fr w (hS.at_ 2 rfl) f.client) rfl rfl yu ?_)
 refine xeh ?_
 refine CS (VC.block ?_)
 have hi2:=ok.lasti f.client
 have hl1:=ok.last;have hl2:=ok.win.last1
 refine CS ?_
 refine VC.meetS (σ:=Unit) (fun _=>[(0,pV p),(2,.int .i64 now),(4,pV fb),(6,.int .i64 0),(7,pV rb),(8,.int .i64 (lastR R.log f.client).1),(9,.int .i64 (lastR R.log f.client).2),(64,.bool ((f.seq == (lastR R.log f.client).1)&&decide (R.win.done<(lastR R.log f.client).2)))])
  (fun _=>[pt p (repCs R x) repT,slH memT 2 x.a R.ch.ms.length x.c (flat memC R.ch.ms),logH x.lp R.log,winH x.wp R.win,admH x.ap R.adm,rdsH x.rp R.rds,pt rb (resC resZ) resT,pt fb (fmc (f,m)) frT]) (fun _=>True) ?_ ?_
 ·refine xik ?_
  cases h7:(f.seq == (lastR R.log f.client).1) with
  | false=>
   refine VG (VY 69 false rfl h7 ?_)
   refine xdn ?_
   exact xil
  | true=>
   refine VG (VY 69 true rfl h7 ?_)
   refine xdn ?_
   refine xie ?_
   refine xdn ?_
   exact xil
 rintro _ -
 refine CC rfl (fun h7=>?_) (fun h7=>?_)
 ·have k7:f.seq=(lastR R.log f.client).1∧R.win.done<(lastR R.log f.client).2:=by simpa using h7
  refine zpl ?_
  exact CR (fin 6 resZ R.adm rfl rfl rfl rfl (by rw[judgeM,if_neg k1,if_neg k2,if_neg k3,if_neg k4,if_neg k5,if_neg k6,if_pos k7]))
 have k7:¬(f.seq=(lastR R.log f.client).1∧R.win.done<(lastR R.log f.client).2):=fun h=>by rw[DT h.2,h.1] at h7;simp at h7
 refine xik ?_
 refine CE rfl (fun h8=>?_) (fun h8=>?_)
 ·refine xdf ?_
  refine VG (VV (fun Fr w hF hs hS=>Lg.result_spec Fr w (hS.at_ 2 rfl) (lastR R.log f.client).2 yd yd) rfl ?_)
  refine xdf ?_
  refine VG (VT (vs:=resC ((atI (logRun R.log).2 (lastR R.log f.client).2).getD resZ)) 6 rfl rfl rfl rfl (NR _) rfl rfl rfl (VG (VN ?_)))
  refine xih ?_
  refine AG (VA.ldA 6 (resC ((atI (logRun R.log).2 (lastR R.log f.client).2).getD resZ)) rfl rfl rfl rfl rfl ?_)
  refine xeh ?_
  refine AG (AT (vs:=resC ((atI (logRun R.log).2 (lastR R.log f.client).2).getD resZ)) 6 rfl rfl rfl rfl rfl (NR _) rfl rfl rfl yu ?_)
  refine xeh ?_
  exact CR (fin 0 ((atI (logRun R.log).2 (lastR R.log f.client).2).getD resZ) R.adm rfl rfl rfl rfl (by rw[judgeM,if_neg k1,if_neg k2,if_neg k3,if_neg k4,if_neg k5,if_neg k6,if_neg k7,if_pos h8]))
 refine xik ?_
 refine CP rfl (fun h9=>?_) (fun h9=>?_)
 ·refine zpl ?_
  exact CR (fin 7 resZ R.adm rfl rfl rfl rfl (by rw[judgeM,if_neg k1,if_neg k2,if_neg k3,if_neg k4,if_neg k5,if_neg k6,if_neg k7,if_neg h8,if_pos h9]))
 refine xdf ?_
 refine VG (VV (fun Fr w hF hs hS=>Lg.len_spec Fr w (hS.at_ 2 rfl)) rfl ?_)
 refine xdf ?_
 refine CP rfl (fun h10=>?_) (fun h10=>CK ?_)
 ·refine zpl ?_
  exact CR (fin 1 resZ R.adm rfl rfl rfl rfl (by rw[judgeM,if_neg k1,if_neg k2,if_neg k3,if_neg k4,if_neg k5,if_neg k6,if_neg k7,if_neg h8,if_neg h9,if_pos yd]))
 refine CS (CD (ts 0 6 (.take 7 (.only 6 (.take 8 (.only 9 .nil))))) ym yr ?_)
 refine xig ?_
 refine AG (VA.ldA 7 (fmc (f,m)) rfl rfl rfl rfl rfl ?_)
 refine xeh ?_
 refine xii ?_
 refine AG (AQ 4 rfl (fun Fr w hF hs hS=>offer_spec Fr w x.ap R.adm (f,m) (hmm.of hF hs) now) rfl rfl (ψ:=fun v H=>v=.int .i64 (R.adm.offerM f now).1∧H=admH x.ap (R.adm.offerM f now).2) yy ?_ ?_)
 ·rintro _ _ ⟨rfl,rfl⟩
  exact yu
 rintro _ _ ⟨rfl,rfl⟩
 refine zpg ?_
 exact CR (fin (R.adm.offerM f now).1 resZ (R.adm.offerM f now).2 rfl rfl rfl rfl (by rw[judgeM,if_neg k1,if_neg k2,if_neg k3,if_neg k4,if_neg k5,if_neg k6,if_neg k7,if_neg h8,if_neg h9,if_neg yd]))
end
end Rep
namespace Rep
open Go Vg T Api Kv Ch Lg Rd Win Adm
attribute [local irreducible] VO VC VA
def updateR(R:RepM)(f:FrameM)(now:Int):RepM×List SndM:=
 if (judgeM R f now).2.1.code≠0 then ({ R with adm:=(judgeM R f now).2.2 },[(32+f.client,replyF f.client f.seq f.try_ (judgeM R f now).2.1)])
 else if (judgeM R f now).1=0 then ({ R with adm:=(judgeM R f now).2.2 },[])
 else if (judgeM R f now).1≠6∧(judgeM R f now).1≠10 then ({ R with adm:=((judgeM R f now).2.2.barM f.client f.seq f.try_).2 },[(32+f.client,refuseF R.ch.epoch f (judgeM R f now).1)])
 else ({ R with adm:=(judgeM R f now).2.2 },[(32+f.client,refuseF R.ch.epoch f (judgeM R f now).1)])
section
variable {p:Nat} {R:RepM} {b:Nat} {S:List SndM}
theorem update_spec(ok:R.Ok)(hS:S.length≤900000)(f:FrameM)(m:MemG)(hmm:MIn Fr w m)(now:Int)(hc0:0≤f.client)(hc1:f.client≤1000):Tri Tryz.prog 190 [.pointer (some ⟨p,0,none⟩),.agg (fmc (f,m)).toArray,.int .i64 now,sendF b] Fr w [repH p R,outH b S]
  (fun v L=>v=.tuple #[]∧L=[repH p (updateR R f now).1,outH b (S++(updateR R f now).2)]):=by
 refine TF 53 Tryz.func190 rfl ym tabOk rfl rfl ?_
 refine CS (CG (VG (VB (vs:=fmc (f,m)) rfl fun fb=>?_)))
 refine xdf ?_
 refine VG (VL 0 (fmc (f,m)) rfl rfl rfl rfl ?_)
 refine VG (VQ 1 rfl (fun Fr w hF hs hS=>judge_spec Fr w ok f m (hmm.of hF hs) now) rfl (ψ:=fun v H=>v=.tuple #[.int .i64 (judgeM R f now).1,.agg (resC (judgeM R f now).2.1).toArray]∧H=repH p { R with adm:=(judgeM R f now).2.2 }) yy ?_)
 rintro _ _ ⟨rfl,rfl⟩
 refine VO.opn 1 rfl (HOpn.rep p _) ?_
 rintro x -
 obtain⟨⟨z,rr,A⟩,hj⟩:∃j,judgeM R f now=j:=⟨_,rfl⟩
 rw[hj]
 have hu:updateR R f now=(if rr.code≠0 then ({ R with adm:=A },[(32+f.client,replyF f.client f.seq f.try_ rr)])
   else if z=0 then ({ R with adm:=A },[])
   else if z≠6∧z≠10 then ({ R with adm:=(A.barM f.client f.seq f.try_).2 },[(32+f.client,refuseF R.ch.epoch f z)])
   else ({ R with adm:=A },[(32+f.client,refuseF R.ch.epoch f z)])):=by rw[updateR,hj]
 show VO _ _ _ _ _ [pt p (repCs R x) repT,slH memT 2 x.a R.ch.ms.length x.c (flat memC R.ch.ms),logH x.lp R.log,winH x.wp R.win,admH x.ap A,rdsH x.rp R.rds,pt fb (fmc (f,m)) frT,outH b S] _
 refine xdf ?_
 refine VG (VO.alloc rfl fun rb=>?_)
 refine xdf ?_
 refine VG (VT (vs:=resC rr) 0 rfl rfl rfl rfl (NR _) rfl rfl rfl ?_)
 refine xdf ?_
 refine VC.condNE rfl (fun h1=>?_) (fun h1=>CK ?_)
 ·refine xik ?_
  refine VG (VL 0 (resC rr) rfl rfl rfl rfl ?_)
  refine VG (VQ 8 rfl (fun Fr w hF hs _=>reply_spec Fr w yd f.client f.seq f.try_ hc0 yd rr) rfl (ψ:=fun v H=>v=.tuple #[]∧H=outH b (S ++ [(32+f.client,replyF f.client f.seq f.try_ rr)])) yy ?_)
  rintro _ _ ⟨rfl,rfl⟩
  refine xdf ?_
  exact CR (Ret.void rfl (Imp.rep (R:={ R with adm:=A }) x (IP 1 rfl (IP 1 rfl (IP 1 rfl (IP 1 rfl (IP 1 rfl (IP 1 rfl (IP 2 rfl Imp.nil)))))))).ent ⟨rfl,by rw[hu,if_pos h1]⟩)
 refine xdf ?_
 refine CE rfl (fun h2=>?_) (fun h2=>CK ?_)
 ·exact CR (Ret.void rfl (Imp.rep (R:={ R with adm:=A }) x (IP 1 rfl (IP 1 rfl (IP 1 rfl (IP 1 rfl (IP 1 rfl (IP 1 rfl (IP 2 rfl Imp.nil)))))))).ent ⟨rfl,by rw[hu,if_neg (fun h=>h h1),if_pos h2,List.append_nil]⟩)
 refine CS ?_
 refine VC.meetS (σ:=AdmM) (fun _=>[(0,pV p),(3,sendF b),(5,pV fb),(8,.int .i64 z)])
  (fun A'=>[pt p (repCs R x) repT,slH memT 2 x.a R.ch.ms.length x.c (flat memC R.ch.ms),logH x.lp R.log,winH x.wp R.win,admH x.ap A',rdsH x.rp R.rds,pt fb (fmc (f,m)) frT,outH b S]) (fun A'=>A'=if z≠6∧z≠10 then (A.barM f.client f.seq f.try_).2 else A) ?_ ?_
 ·refine xdf ?_
  by_cases h3:z=6
  ·refine VG (VY 33 false rfl (by simp[h3]) ?_)
   refine zph ?_
   exact⟨A,by rw[if_neg (fun h=>h.1 h3)],sbZ,(pkZ [1,1,1,1,1,1,1,1]).ent⟩
  ·refine VG (VY 33 true rfl (by simp[h3]) ?_)
   refine xdn ?_
   refine VC.condNE rfl (fun h4=>?_) (fun h4=>CK ?_)
   ·refine CD (ts 0 10 (.only 10 .nil)) ym yr ?_
    refine xig ?_
    refine AG (AQ 5 rfl (fun Fr w hF hs hS=>bar_spec Fr w x.ap A f.client f.seq f.try_) rfl rfl (ψ:=fun v H=>v=.int .i64 (A.barM f.client f.seq f.try_).1∧H=admH x.ap (A.barM f.client f.seq f.try_).2) yy ?_ ?_)
    ·rintro _ _ ⟨rfl,rfl⟩
     exact yu
    rintro _ _ ⟨rfl,rfl⟩
    refine xeh ?_
    exact⟨(A.barM f.client f.seq f.try_).2,by rw[if_pos ⟨h3,h4⟩],sbZ,(pkZ [1,1,1,1,1,1,1,1]).ent⟩
   ·exact⟨A,by rw[if_neg (fun h=>h.2 h4)],sbZ,(pkZ [1,1,1,1,1,1,1,1]).ent⟩
 rintro A' hA'
 refine xdf ?_
 refine VG (VL 6 (fmc (f,m)) rfl rfl rfl rfl ?_)
 refine xdf ?_
 refine VG (VQ 7 rfl (fun Fr w hF hs hS=>refuse_spec Fr w (hS.blk 0 rfl) yd f m hc0 yd z) rfl (ψ:=fun v H=>v=.tuple #[]∧H=outH b (S ++ [(32+f.client,refuseF R.ch.epoch f z)])) yy ?_)
 rintro _ _ ⟨rfl,rfl⟩
 refine xdf ?_
 exact Ret.void rfl (Imp.rep (R:={ R with adm:=A' }) x (IP 0 rfl (IP 0 rfl (IP 0 rfl (IP 0 rfl (IP 0 rfl (IP 0 rfl (IP 1 rfl Imp.nil)))))))).ent ⟨rfl,by
  rw[hu,if_neg (fun h=>h h1),if_neg h2,hA']
  split<;>rfl⟩
def readReason(R:RepM)(f:FrameM)(now:Int):Int:=
 if R.knownB f=false then 5 else if R.tailB=false then 4 else if R.whole=false then 8 else if f.deadline<now then 2 else if R.most≤R.rds.l.length then 1 else 0
def confirmF(epoch id:Int):FrameM:={ FrameM.zero with kind:=9,epoch:=epoch,index:=id }
def readR(R:RepM)(f:FrameM)(now:Int):RepM×List SndM:=
 if readReason R f now≠0 then (R,[(32+f.client,refuseF R.ch.epoch f (readReason R f now))])
 else ({ R with rds:=R.rds.put f (kvLook (logRun R.log).1 f.op.key R.log.length) },[(16,confirmF R.ch.epoch (R.rds.last+1))])
theorem read_spec(ok:R.Ok)(hmost:R.most=R.rds.cap)(hS:S.length≤900000)(f:FrameM){ma:Option Addr}{mc:Nat}{ms:List MemM}(hm:RwIn memC 2 Fr w ma ms)(hml:ms.length≤1000000)(now:Int)(hc0:0≤f.client)(hc1:f.client≤1000):Tri Tryz.prog 189 [.pointer (some ⟨p,0,none⟩),.agg (fgC f (ma,ms.length,mc)).toArray,.int .i64 now,sendF b] Fr w [repH p R,outH b S]
  (fun v L=>v=.tuple #[]∧L=[repH p (readR R f now).1,outH b (S++(readR R f now).2)]):=by
 refine TF 75 Tryz.func189 rfl ym tabOk rfl rfl ?_
 refine CS (CG (VG (VB (vs:=fgC f (ma,ms.length,mc)) rfl fun fb=>VG (VN ?_))))
 refine xim ?_
 rintro x -
 show VC _ _ _ [pt p (repCs R x) repT,slH memT 2 x.a R.ch.ms.length x.c (flat memC R.ch.ms),logH x.lp R.log,winH x.wp R.win,admH x.ap R.adm,rdsH x.rp R.rds,pt fb (fgC f (ma,ms.length,mc)) frT,outH b S] _
 have hlen:R.rds.l.length≤16:=by have:=ok.rl;have:=ok.rc1;omega
 refine CS (CG (VG (VN (CS ?_))))
 have S4:∀{E:Env} {z:Int},Vg.look E 8=some (.int .i64 z)→z=readReason R f now→Vg.look E 0=some (.pointer (some ⟨p,0,none⟩))→Vg.look E 3=some (sendF b)→Vg.look E 5=some (.pointer (some ⟨fb,0,none⟩))→Sub [(0,pV p),(3,sendF b),(5,pV fb),(8,.int .i64 (readReason R f now))] E:=fun h0 h1 h2 h3 h4=>SC h2 (SC h3 (SC h4 (Sub.int h0 h1 (SN _))))
 refine VC.meetS (σ:=Unit) (fun _=>[(0,pV p),(3,sendF b),(5,pV fb),(8,.int .i64 (readReason R f now))])
  (fun _=>[pt p (repCs R x) repT,slH memT 2 x.a R.ch.ms.length x.c (flat memC R.ch.ms),logH x.lp R.log,winH x.wp R.win,admH x.ap R.adm,rdsH x.rp R.rds,pt fb (fgC f (ma,ms.length,mc)) frT,outH b S]) (fun _=>True) ?_ ?_
 ·refine VC.block ?_
  refine xdf ?_
  refine VG (VL 6 (fgC f (ma,ms.length,mc)) rfl rfl rfl rfl ?_)
  refine xin ?_
  refine xdf ?_
  refine VC.condN rfl (fun h1=>?_) (fun h1=>?_)
  ·refine xdf ?_
   exact⟨(),trivial,S4 rfl (by rw[readReason,if_pos h1]) rfl rfl rfl,ER⟩
  have k1:¬R.knownB f=false:=by rw[h1];simp
  refine xdf ?_
  refine xid ?_
  refine xdf ?_
  refine VC.condN rfl (fun h2=>?_) (fun h2=>?_)
  ·refine xdf ?_
   exact⟨(),trivial,S4 rfl (by rw[readReason,if_neg k1,if_pos h2]) rfl rfl rfl,ER⟩
  have k2:¬R.tailB=false:=by rw[h2];simp
  refine xdf ?_
  refine VC.condN rfl (fun h3=>?_) (fun h3=>?_)
  ·refine xdf ?_
   exact⟨(),trivial,S4 rfl (by rw[readReason,if_neg k1,if_neg k2,if_pos h3]) rfl rfl rfl,ER⟩
  have k3:¬R.whole=false:=by rw[h3];simp
  refine xio ?_
  refine CP rfl (fun h4=>?_) (fun h4=>?_)
  ·refine xdf ?_
   exact⟨(),trivial,S4 rfl (by rw[readReason,if_neg k1,if_neg k2,if_neg k3,if_pos h4]) rfl rfl rfl,ER⟩
  refine CS (CD (ts 0 4 (ts 5 4 (.only 4 (ts 9 2 .nil)))) ym yr ?_)
  refine xip ?_
  refine AG (AR (fun Fr w hF hs hS=>Rd.len_spec Fr w (hS.at_ 5 rfl) ok.rc0) rfl rfl yu ?_)
  refine xeh ?_
  refine CP rfl (fun h5=>?_) (fun h5=>CK ?_)
  ·refine xdf ?_
   exact⟨(),trivial,S4 rfl (by rw[readReason,if_neg k1,if_neg k2,if_neg k3,if_neg h4,if_pos h5]) rfl rfl rfl,ER⟩
  ·exact⟨(),trivial,S4 rfl (by rw[readReason,if_neg k1,if_neg k2,if_neg k3,if_neg h4,if_neg h5]) rfl rfl rfl,ER⟩
 rintro _ -
 refine xdf ?_
 refine VC.condNE rfl (fun hr=>?_) (fun hr=>CK ?_)
 ·refine xdf ?_
  refine VG (VL 6 (fgC f (ma,ms.length,mc)) rfl rfl rfl rfl ?_)
  refine xdf ?_
  refine VG (VQ 7 rfl (fun Fr w hF hs hS=>refuse_spec Fr w (hS.blk 0 rfl) yd f (ma,ms.length,mc) hc0 yd (readReason R f now)) rfl (ψ:=fun v H=>v=.tuple #[]∧H=outH b (S ++ [(32+f.client,refuseF R.ch.epoch f (readReason R f now))])) yy ?_)
  rintro _ _ ⟨rfl,rfl⟩
  refine xdf ?_
  exact CR (Ret.void rfl (Imp.rep x (IP 0 rfl (IP 0 rfl (IP 0 rfl (IP 0 rfl (IP 0 rfl (IP 0 rfl (IP 1 rfl Imp.nil)))))))).ent ⟨rfl,by rw[readR,if_pos hr]⟩)
 have hnf:(R.rds.l.length:Int)<R.rds.cap:=by
  rw[←hmost]
  unfold readReason at hr
  split at hr
  ·cases hr
  split at hr
  ·cases hr
  split at hr
  ·cases hr
  split at hr
  ·cases hr
  split at hr
  ·cases hr
  ·omega
 refine CS (CD (ts 0 12 (.only 12 (.only 13 (ts 14 5 .nil)))) ym yr ?_)
 refine xip ?_
 refine AG (VA.ldA 6 (fgC f (ma,ms.length,mc)) rfl rfl rfl rfl rfl ?_)
 refine xip ?_
 refine AG (AR (fun Fr w hF hs hS=>Lg.look_spec Fr w (hS.at_ 2 rfl) f.op.key) rfl rfl yu ?_)
 refine AG (AQ 5 rfl (fun Fr w hF hs hS=>Rd.put_spec Fr w x.rp R.rds ok.rc0 ok.rc1 ok.rn0 (by have:=ok.rn1;omega) f (hm.of hF hs) hml (kvLook (logRun R.log).1 f.op.key R.log.length)) rfl rfl (ψ:=fun v H=>v=.tuple #[.int .i64 (R.rds.last+1),.int .i64 0]∧H=rdsH x.rp (R.rds.put f (kvLook (logRun R.log).1 f.op.key R.log.length))) (fun v L h=>⟨_,h.2,by rw[h.1,if_pos hnf],rfl⟩) ?_ ?_)
 ·rintro _ _ ⟨rfl,rfl⟩
  exact yu
 rintro _ _ ⟨rfl,rfl⟩
 refine zpr ?_
 refine VG (VI (LB (pv:=[(0,.int .i64 9),(1,.int .i64 R.ch.epoch),(12,.int .i64 (R.rds.last+1))]) (fgC (confirmF R.ch.epoch (R.rds.last+1)) mem0) rfl rfl rfl ym rfl) ?_)
 refine VG (VO.callFAt 7 rfl rfl (fun Fr w hF hs _=>add_spec Fr w b S yd 16 (confirmF R.ch.epoch (R.rds.last+1))) rfl (ψ:=fun v H=>v=.tuple #[]∧H=outH b (S ++ [(16,confirmF R.ch.epoch (R.rds.last+1))])) yy ?_)
 rintro _ _ ⟨rfl,rfl⟩
 refine xdf ?_
 exact Ret.void rfl (Imp.rep (R:={ R with rds:=R.rds.put f (kvLook (logRun R.log).1 f.op.key R.log.length) }) x (IP 0 rfl (IP 0 rfl (IP 0 rfl (IP 0 rfl (IP 0 rfl (IP 0 rfl (IP 1 rfl Imp.nil)))))))).ent ⟨rfl,by rw[readR,if_neg (fun h=>h hr)]⟩
end
end Rep
namespace Rep
open Go Vg T Api Kv Ch Lg Rd Win Adm
attribute [local irreducible] VO VC VA
theorem ack_ok{W:WinM}(h:W.Ok)(i:Int):(W.ack i).Ok:=by
 unfold WinM.ack
 split
 ·rename_i hb
  simp only[WinM.ackB,Bool.and_eq_true,decide_eq_true_eq] at hb
  have:=h.done0
  exact⟨h.cap0,h.cap1,by show 0≤i;omega,hb.2,h.last1,h.sent0,h.sent1,h.lim0,h.lim1⟩
 ·exact h
theorem ack_last(W:WinM)(i:Int):(W.ack i).last=W.last:=by unfold WinM.ack;split<;>rfl
theorem finishR_ok{R:RepM}(h:R.Ok):R.finishR.Ok:=by
 unfold RepM.finishR
 split
 ·exact⟨h.ch,ack_ok h.win _,by rw[ack_last];exact h.last,h.logc,h.logi,h.rc0,h.rc1,h.rl,h.rn0,h.rn1,h.rcl,h.calls,h.wf⟩
 ·exact h
theorem becomeR_ok{R:RepM}(h:R.Ok):R.becomeR.Ok:=by
 unfold RepM.becomeR
 split
 ·exact xiq
 ·exact h
def pushE(R:RepM)(e:EntryM):RepM:={ R with log:=R.log ++ [e],win:={ R.win with last:=R.win.last+1 } }
theorem logErr_ok{es:List EntryM}{e:EntryM}(h:logErr es e=0):badE e=false∧es.length<4096∧e.index=es.length+1∧(lastOf es e.client).1<e.seq:=by
 unfold logErr at h
 split at h
 ·cases h
 rename_i h1
 split at h
 ·cases h
 rename_i h2
 split at h
 ·cases h
 rename_i h3
 split at h
 ·cases h
 rename_i h4
 exact⟨by simpa using h1,by omega,by omega,by omega⟩
theorem bad_client{e:EntryM}(h:badE e=false):0≤e.client∧e.client<6∧1≤e.seq:=by
 simp only[badE,Bool.or_eq_false_iff,decide_eq_false_iff_not] at h
 omega
theorem pushE_ok{R:RepM}(h:R.Ok){e:EntryM}(he:logErr R.log e=0)(hr:R.win.room=true):(pushE R e).Ok:=by
 obtain⟨b1,b2,b3,b4⟩:=logErr_ok he
 have hc:=bad_client b1
 simp only[WinM.room,Bool.and_eq_true,decide_eq_true_eq] at hr
 have hw:=h.win
 have hl:=h.last
 refine⟨h.ch,⟨hw.cap0,hw.cap1,hw.done0,?_,?_,hw.sent0,?_,hw.lim0,hw.lim1⟩,?_,?_,?_,h.rc0,h.rc1,h.rl,h.rn0,h.rn1,h.rcl,h.calls,h.wf⟩
 ·have:=hw.done1;show R.win.done≤R.win.last+1;omega
 ·show R.win.last+1≤4096;omega
 ·have:=hw.sent1;show R.win.sent≤R.win.last+1;omega
 ·show R.win.last+1=(R.log ++ [e]).length;rw[List.length_append,hl];simp
 ·intro y hy
  rcases List.mem_append.1 hy with hy | hy
  ·exact h.logc y hy
  ·obtain rfl:=List.mem_singleton.1 hy;exact⟨hc.1,hc.2.1⟩
 ·intro y hy
  show _∧y.index≤(R.log ++ [e]).length
  rw[List.length_append]
  rcases List.mem_append.1 hy with hy | hy
  ·have:=h.logi y hy;exact⟨this.1,by simp;omega⟩
  ·obtain rfl:=List.mem_singleton.1 hy;exact⟨by omega,by simp;omega⟩
theorem repl_len(R:RepM)(k:Nat):(replies R k).length=k:=by simp[replies]
theorem finishM_len{R:RepM}(h:R.Ok):R.finishM.length≤4096:=by
 unfold RepM.finishM
 split
 ·rw[repl_len];have:=h.win.last1;have:=h.win.done0;omega
 ·simp
theorem baseM_len(R:RepM):R.baseM.length≤1:=by unfold RepM.baseM;split<;>simp
theorem becomeM_len(R:RepM):R.becomeM.length≤1:=by
 unfold RepM.becomeM
 split
 ·exact baseM_len _
 ·simp
theorem greetM_len(R:RepM):R.greetM.length≤1:=by unfold RepM.greetM;split<;>simp
def fwdB(R:RepM)(e:EntryM):Bool:=(e.index == R.win.last+1)&&decide (0<max (min (R.win.done+R.win.cap) 4096-R.win.last) 0)
theorem fwd_room{R:RepM}{e:EntryM}(h:fwdB R e=true):R.win.room=true:=by
 simp only[fwdB,Bool.and_eq_true,decide_eq_true_eq] at h
 simp only[WinM.room,Bool.and_eq_true,decide_eq_true_eq]
 omega
def forwardR(R:RepM)(e:EntryM):RepM×List SndM:=
 if fwdB R e=true∧logErr R.log e=0 then ((pushE R e).finishR.becomeR,(pushE R e).finishM++(pushE R e).finishR.becomeM++(pushE R e).finishR.becomeR.greetM)
 else (R,R.greetM)
section
variable {p:Nat} {R:RepM} {b:Nat} {S:List SndM}
theorem forward_spec(ok:R.Ok)(hS:S.length≤800000)(e:EntryM)(hi1:-9223372036854775808≤e.index)(hi2:e.index≤9223372036854775807):Tri Tryz.prog 195 [.pointer (some ⟨p,0,none⟩),.agg (entC e).toArray,sendF b] Fr w [repH p R,outH b S]
  (fun v L=>v=.tuple #[]∧L=[repH p (forwardR R e).1,outH b (S++(forwardR R e).2)]):=by
 have w0:=ok.win.cap0
 have w1:=ok.win.last1;have w2:=ok.win.done0;have w3:=ok.win.done1
 refine TF 50 Tryz.func195 rfl ym tabOk rfl rfl ?_
 refine CS (CG (VG (VB (vs:=entC e) rfl fun eb=>VG (VN ?_))))
 refine CS ?_
 refine VC.meetS (σ:=RepM×List SndM) (fun _=>[(0,pV p),(2,sendF b)]) (fun y=>[repH p y.1,outH b (S++y.2)]) (fun y=>y.1.Ok∧y.2.length≤10000∧forwardR R e=(y.1,y.2++y.1.greetM)) ?_ ?_
 ·refine xim ?_
  rintro x -
  show VC _ _ _ [pt p (repCs R x) repT,slH memT 2 x.a R.ch.ms.length x.c (flat memC R.ch.ms),logH x.lp R.log,winH x.wp R.win,admH x.ap R.adm,rdsH x.rp R.rds,pt eb (entC e) entT,outH b S] _
  have shut:∀{X:Cx} {T:List SndM},Ent X [pt p (repCs R x) repT,slH memT 2 x.a R.ch.ms.length x.c (flat memC R.ch.ms),logH x.lp R.log,winH x.wp R.win,admH x.ap R.adm,rdsH x.rp R.rds,pt eb (entC e) entT,outH b T] [repH p R,outH b T]:=
   (Imp.rep x (pkZ [0,0,0,0,0,0,1])).ent
  have none_:¬(fwdB R e=true∧logErr R.log e=0)→R.Ok∧([]:List SndM).length≤10000∧forwardR R e=(R,[]++R.greetM):=fun h=>⟨ok,by simp,by rw[forwardR,if_neg h];rfl⟩
  refine CS (CD (ts 0 6 (.only 6 (ts 7 7 (.only 14 (ts 15 2 .nil))))) ym yr ?_)
  refine xip ?_
  refine AG (AR (fun Fr w hF hs hS=>Win.last_spec Fr w (hS.blk 3 rfl) w0) rfl rfl yu ?_)
  refine xeo ?_
  refine xeh ?_
  cases h1:(e.index == R.win.last+1) with
  | false=>
   refine AG (AY 17 false rfl h1 ?_)
   refine zpy ?_
   refine xdy ?_
   exact⟨(R,[]),none_ (fun h=>by rw[fwdB,h1] at h;exact absurd h.1 yf),sbZ,by dsimp only;rw[List.append_nil];exact shut⟩
  | true=>
  refine AG (AY 17 true rfl h1 ?_)
  (repeat(first|refine yG (yN ?_)|refine yG (yD 0 rfl rfl rfl rfl rfl ?_)|refine yG (yD 1 rfl rfl rfl rfl rfl ?_)|refine yG (yD 2 rfl rfl rfl rfl rfl ?_)|refine yG (yD 3 rfl rfl rfl rfl rfl ?_)|refine yG (yD 4 rfl rfl rfl rfl rfl ?_)|refine yG (yD 5 rfl rfl rfl rfl rfl ?_)|refine yG (yD 6 rfl rfl rfl rfl rfl ?_)|refine yG (yU rfl rfl rfl rfl ?_)))
  refine AG (AR (fun Fr w hF hs hS=>Win.free_spec Fr w (hS.blk 3 rfl) ok.win) rfl rfl yu ?_)
  refine xeu ?_
  refine CP rfl (fun h2=>?_) (fun h2=>CK ?_)
  rotate_left
  ·exact⟨(R,[]),none_ (fun h=>by rw[fwdB,h1,DF h2] at h;exact absurd h.1 yf),sbZ,by dsimp only;rw[List.append_nil];exact shut⟩
  have hfb:fwdB R e=true:=by rw[fwdB,h1,DT h2];rfl
  refine CS ?_
  refine VC.meetS (σ:=Nat) (fun rb=>[(0,pV p),(2,sendF b),(7,.int .i64 (logErr R.log e))]) (fun rb=>[pt rb (resC (logRes R.log e)) resT,pt p (repCs R x) repT,slH memT 2 x.a R.ch.ms.length x.c (flat memC R.ch.ms),logH x.lp (logApp R.log e),winH x.wp R.win,admH x.ap R.adm,rdsH x.rp R.rds,pt eb (entC e) entT,outH b S]) (fun _=>True) ?_ ?_
  ·refine xir ?_
   refine xip ?_
   refine AG (VA.ldA 6 (entC e) rfl rfl rfl rfl rfl ?_)
   refine AG (VA.two rfl rfl rfl rfl rfl (OpT.callAt (ψ:=fun v H=>v=.tuple #[.agg (resC (logRes R.log e)).toArray,.int .i64 (logErr R.log e)]∧H=logH x.lp (logApp R.log e)) 2 rfl (fun Fr w hF hs hS=>Lg.append_spec Fr w x.lp R.log e) rfl yy) rfl rfl rfl (OpT.alloc rfl) ?_ ?_ ?_ ?_)
   ·rintro _ _ ⟨_,⟨rfl,rfl⟩,rfl⟩
    exact yu
   ·rintro _ _ ⟨rb,rfl,rfl⟩
    exact yu
   ·rintro _ _ ⟨_,⟨rfl,rfl⟩,rfl⟩
    refine xeh ?_
    refine AG (AO (OpT.alloc rfl) rfl ?_ ?_)
    ·rintro _ _ ⟨rb,rfl,rfl⟩
     exact yu
    rintro _ _ ⟨rb,rfl,rfl⟩
    refine xis ?_
    exact zpz
   ·rintro _ _ ⟨rb,rfl,rfl⟩
    refine AG (AO (OpT.callAt (ψ:=fun v H=>v=.tuple #[.agg (resC (logRes R.log e)).toArray,.int .i64 (logErr R.log e)]∧H=logH x.lp (logApp R.log e)) 3 rfl (fun Fr w hF hs hS=>Lg.append_spec Fr w x.lp R.log e) rfl yy) rfl ?_ ?_)
    ·rintro _ _ ⟨_,⟨rfl,rfl⟩,rfl⟩
     exact yu
    rintro _ _ ⟨_,⟨rfl,rfl⟩,rfl⟩
    refine xeh ?_
    refine xis ?_
    exact zpz
  rintro rb -
  refine xdf ?_
  refine CE rfl (fun h3=>?_) (fun h3=>CK ?_)
  rotate_left
  ·have hla:logApp R.log e=R.log:=by rw[logApp,if_neg h3]
   rw[hla]
   exact⟨(R,[]),none_ (fun h=>h3 h.2),sbZ,by
    dsimp only;rw[List.append_nil]
    exact(Imp.rep x (pkZ [1,1,1,1,1,1,2])).ent⟩
  have hla:logApp R.log e=R.log ++ [e]:=by rw[logApp,if_pos h3]
  have hroom:=fwd_room hfb
  have okp:=pushE_ok ok h3 hroom
  rw[hla]
  refine xds ?_
  refine VG (VQ 4 rfl (fun Fr w hF hs hS=>Win.push_spec Fr w ok.win hroom) rfl (ψ:=fun v H=>v=.bool true∧H=winH x.wp { R.win with last:=R.win.last+1 }) yy ?_)
  rintro _ _ ⟨rfl,rfl⟩
  refine VO.ent (L':=[repH p (pushE R e),outH b S]) (Imp.rep (R:=pushE R e) x (pkZ [1,1,1,1,1,1,2])).ent ?_
  refine xdf ?_
  refine VG (VK (Lc:=[repH p (pushE R e),outH b S]) (Lr:=[]) (fun Fr w hF hs hS=>finish_spec Fr w okp yd) rfl rfl ?_)
  rintro _ _ ⟨rfl,rfl⟩
  have fl:=finishM_len okp
  refine xdf ?_
  refine VG (VK (Lc:=[repH p (pushE R e).finishR,outH b (S++(pushE R e).finishM)]) (Lr:=[]) (fun Fr w hF hs hS=>become_spec Fr w (finishR_ok okp) yp) rfl rfl ?_)
  rintro _ _ ⟨rfl,rfl⟩
  have bl:=becomeM_len (pushE R e).finishR
  refine xdf ?_
  refine⟨((pushE R e).finishR.becomeR,(pushE R e).finishM++(pushE R e).finishR.becomeM),⟨becomeR_ok (finishR_ok okp),by dsimp only;rw[List.length_append];omega,by rw[forwardR,if_pos ⟨hfb,h3⟩]⟩,sbZ,?_⟩
  dsimp only
  rw[List.append_assoc]
  exact ER
 rintro⟨R',T⟩ ⟨ok',hT,hf⟩
 dsimp only at ok' hT hf ⊢
 refine VC.opn 0 rfl (HOpn.rep p R') ?_
 rintro x -
 show VC _ _ _ (repO p R' x b (S++T)) _
 unfold repO
 refine xdf ?_
 refine VG (VQ 6 rfl (fun Fr w hF hs hS=>greet_spec Fr w (RepIn.pcs hS 0 rfl rfl rfl rfl rfl rfl) ok'.ch ok'.win yp) rfl (ψ:=fun v H=>v=.tuple #[]∧H=outH b (S++T++R'.greetM)) yy ?_)
 rintro _ _ ⟨rfl,rfl⟩
 refine xdf ?_
 exact Ret.void rfl (repO_shut (R:=R') (x:=x)).ent ⟨rfl,by rw[hf,List.append_assoc]⟩
end
end Rep
namespace Rep
open Go Vg T Api Kv Ch Lg Rd Win Adm
attribute [local irreducible] VO VC VA
def ack1(R:RepM)(f:FrameM):RepM:=if R.linked then { R with have_:=max R.have_ f.have_ } else { R with linked:=true,have_:=f.have_,win:={ R.win with sent:=min (max f.have_ 0) R.win.last } }
def ack2(R:RepM)(f:FrameM):RepM:={ ack1 R f with win:={ (ack1 R f).win with limit:=max (ack1 R f).win.limit (min f.grant 4112) } }
def ackR(R:RepM)(f:FrameM):RepM×List SndM:=
 ({ ack2 R f with win:=(ack2 R f).win.ack f.index },if (ack2 R f).win.ackB f.index then RepM.greetM { ack2 R f with win:=(ack2 R f).win.ack f.index } else [])
theorem ack1_ok{R:RepM}(h:R.Ok)(f:FrameM):(ack1 R f).Ok:=by
 unfold ack1
 split
 ·exact xiq
 ·have hw:=h.win
  refine⟨h.ch,⟨hw.cap0,hw.cap1,hw.done0,hw.done1,hw.last1,?_,?_,hw.lim0,hw.lim1⟩,h.last,h.logc,h.logi,h.rc0,h.rc1,h.rl,h.rn0,h.rn1,h.rcl,h.calls,h.wf⟩
  ·show 0≤min (max f.have_ 0) R.win.last
   have:=hw.done0;have:=hw.done1;omega
  ·show min (max f.have_ 0) R.win.last≤R.win.last;omega
theorem ack2_ok{R:RepM}(h:R.Ok)(f:FrameM):(ack2 R f).Ok:=by
 have h1:=ack1_ok h f
 have hw:=h1.win
 unfold ack2
 refine⟨h1.ch,⟨hw.cap0,hw.cap1,hw.done0,hw.done1,hw.last1,hw.sent0,hw.sent1,?_,?_⟩,h1.last,h1.logc,h1.logi,h1.rc0,h1.rc1,h1.rl,h1.rn0,h1.rn1,h1.rcl,h1.calls,h1.wf⟩
 ·show 0≤max (ack1 R f).win.limit (min f.grant 4112);have:=hw.lim0;omega
 ·show max (ack1 R f).win.limit (min f.grant 4112)≤4112;have:=hw.lim1;omega
theorem ackR_ok{R:RepM}(h:R.Ok)(f:FrameM):(ackR R f).1.Ok:=by
 have h2:=ack2_ok h f
 exact⟨h2.ch,ack_ok h2.win _,by show((ack2 R f).win.ack f.index).last=_;rw[ack_last];exact h2.last,h2.logc,h2.logi,h2.rc0,h2.rc1,h2.rl,h2.rn0,h2.rn1,h2.rcl,h2.calls,h2.wf⟩
section
variable {p:Nat} {R:RepM} {b:Nat} {S:List SndM}
theorem ack_spec(ok:R.Ok)(hS:S.length≤800000)(f:FrameM)(m:MemG):Tri Tryz.prog 196 [.pointer (some ⟨p,0,none⟩),.agg (fgC f m).toArray,sendF b] Fr w [repH p R,outH b S]
  (fun v L=>v=.tuple #[]∧L=[repH p (ackR R f).1,outH b (S++(ackR R f).2)]):=by
 have ok1:=ack1_ok ok f
 have ok2:=ack2_ok ok f
 refine TF 52 Tryz.func196 rfl ym tabOk rfl rfl ?_
 refine CS (CG (VG (VB (vs:=fgC f m) rfl fun fb=>VG (VN ?_))))
 refine xim ?_
 rintro x -
 show VC _ _ _ [pt p (repCs R x) repT,slH memT 2 x.a R.ch.ms.length x.c (flat memC R.ch.ms),logH x.lp R.log,winH x.wp R.win,admH x.ap R.adm,rdsH x.rp R.rds,pt fb (fgC f m) frT,outH b S] _
 refine CS ?_
 refine VC.meetS (σ:=Unit) (fun _=>[(0,pV p),(2,sendF b),(4,pV fb)]) (fun _=>[pt p (repCs (ack1 R f) x) repT,slH memT 2 x.a R.ch.ms.length x.c (flat memC R.ch.ms),logH x.lp R.log,winH x.wp (ack1 R f).win,admH x.ap R.adm,rdsH x.rp R.rds,pt fb (fgC f m) frT,outH b S]) (fun _=>True) ?_ ?_
 ·refine xdf ?_
  cases hl:R.linked with
  | true=>
   have e:ack1 R f={ R with have_:=max R.have_ f.have_ }:=by rw[ack1,hl];rfl
   refine xdz ?_
   refine CD (ts 0 10 (.only 10 .nil)) ym yr ?_
   refine xip ?_
   refine AG (VA.st 0 (cs':=repCs { R with have_:=if R.have_<f.have_ then f.have_ else R.have_ } x) rfl rfl rfl rfl rfl (Nat.le_of_ble_eq_true rfl) rfl rfl yu ?_)
   refine xeh ?_
   exact⟨(),trivial,sbZ,by rw[e,show max R.have_ f.have_=(if R.have_<f.have_ then f.have_ else R.have_) by split<;>omega];exact ER⟩
  | false=>
   have e:ack1 R f={ R with linked:=true,have_:=f.have_,win:={ R.win with sent:=min (max f.have_ 0) R.win.last } }:=by rw[ack1,hl];rfl
   refine xdg ?_
   refine CS (CD (ts 0 6 (.only 6 (ts 7 2 (.only 9 .nil)))) ym yr ?_)
   refine xip ?_
   refine AG (VA.st 0 (cs':=repCs { R with linked:=true } x) rfl rfl rfl rfl rfl (Nat.le_of_ble_eq_true rfl) rfl rfl yu ?_)
   refine xip ?_
   refine AG (VA.st 0 (cs':=repCs { R with linked:=true,have_:=f.have_ } x) rfl rfl rfl rfl rfl (Nat.le_of_ble_eq_true rfl) rfl rfl yu ?_)
   refine xeh ?_
   refine xhh ?_
   refine xip ?_
   refine AG (AQ 3 rfl (fun Fr w hF hs hS=>Win.back_spec Fr w ok.win f.have_) rfl rfl (ψ:=fun v H=>v=.tuple #[]∧H=winH x.wp { R.win with sent:=min (max f.have_ 0) R.win.last }) yy ?_ ?_)
   ·rintro _ _ ⟨rfl,rfl⟩
    exact yu
   rintro _ _ ⟨rfl,rfl⟩
   refine xeh ?_
   exact⟨(),trivial,sbZ,by rw[e];exact ER⟩
 rintro _ -
 have e1:(ack1 R f).ch=R.ch∧(ack1 R f).log=R.log∧(ack1 R f).adm=R.adm∧(ack1 R f).rds=R.rds:=by unfold ack1;split<;>exact⟨rfl,rfl,rfl,rfl⟩
 refine xfi ?_
 refine xip ?_
 refine AG (AQ 3 rfl (fun Fr w hF hs hS=>Win.grant_spec Fr w ok1.win f.grant) rfl rfl (ψ:=fun v H=>v=.tuple #[]∧H=winH x.wp (ack2 R f).win) yy ?_ ?_)
 ·rintro _ _ ⟨rfl,rfl⟩
  exact yu
 rintro _ _ ⟨rfl,rfl⟩
 refine xeh ?_
 refine xfi ?_
 refine xip ?_
 refine AG (AQ 3 rfl (fun Fr w hF hs hS=>Win.ack_spec Fr w ok2.win f.index) rfl rfl (ψ:=fun v H=>v=.bool ((ack2 R f).win.ackB f.index)∧H=winH x.wp ((ack2 R f).win.ack f.index)) yy ?_ ?_)
 ·rintro _ _ ⟨rfl,rfl⟩
  exact yu
 rintro _ _ ⟨rfl,rfl⟩
 refine xeh ?_
 have oka:=ackR_ok ok f
 have hrep:repL p (ackR R f).1 x=[pt p (repCs (ack1 R f) x) repT,slH memT 2 x.a R.ch.ms.length x.c (flat memC R.ch.ms),logH x.lp R.log,winH x.wp ((ack2 R f).win.ack f.index),admH x.ap R.adm,rdsH x.rp R.rds]:=by
  show [pt p (repCs (ack1 R f) x) repT,slH memT 2 x.a (ack1 R f).ch.ms.length x.c (flat memC (ack1 R f).ch.ms),logH x.lp (ack1 R f).log,_,admH x.ap (ack1 R f).adm,rdsH x.rp (ack1 R f).rds]=_
  rw[e1.1,e1.2.1,e1.2.2.1,e1.2.2.2];rfl
 refine CN (L':=repL p (ackR R f).1 x ++ [outH b S]) (by rw[hrep];exact(pkZ [0,0,0,0,0,0,1]).ent) ?_
 refine CC rfl (fun hb=>?_) (fun hb=>CK ?_)
 ·refine xdf ?_
  refine VG (VQ 6 rfl (fun Fr w hF hs hS=>greet_spec (R:=(ackR R f).1) Fr w (RepIn.pcs hS 0 rfl rfl rfl rfl rfl rfl) oka.ch oka.win yd) rfl (ψ:=fun v H=>v=.tuple #[]∧H=outH b (S++(ackR R f).1.greetM)) yy ?_)
  rintro _ _ ⟨rfl,rfl⟩
  refine xdf ?_
  exact Ret.void rfl (repO_shut (R:=(ackR R f).1) (x:=x)).ent ⟨rfl,by rw[show(ackR R f).2=(ackR R f).1.greetM by rw[ackR,hb];rfl]⟩
 ·exact Ret.void rfl (repO_shut (R:=(ackR R f).1) (x:=x)).ent ⟨rfl,by rw[show(ackR R f).2=[] by rw[ackR,hb];rfl,List.append_nil]⟩
def forwardF(epoch:Int)(e:EntryM):FrameM:={ FrameM.zero with kind:=4,epoch:=epoch,entry:=e }
def passN(R:RepM):Nat→WinM×List SndM
 | 0=>(R.win,[])
 | k+1=>((passN R k).1.next,(passN R k).2 ++ [(R.nextM,forwardF R.ch.epoch ((atI R.log ((passN R k).1.sent+1)).getD entZ))])
def passK(R:RepM):Nat:=(min R.win.last R.win.limit-R.win.sent).toNat
def passR(R:RepM):RepM×List SndM:=({ R with win:=(passN R (passK R)).1 },(passN R (passK R)).2)
theorem passN_win(R:RepM):∀k,k≤passK R→(passN R k).1={ R.win with sent:=R.win.sent+k }
 | 0,_=>by simp[passN]
 | k+1,h=>by
  unfold passK at h
  rw[passN,passN_win R k (by unfold passK;omega)]
  have hb:({ R.win with sent:=R.win.sent+k }:WinM).nextB=true:=by simp only[WinM.nextB,Bool.and_eq_true,decide_eq_true_eq];omega
  rw[WinM.next,if_pos hb]
  have:R.win.sent+(k:Int)+1=R.win.sent+((k+1:Nat):Int):=by push_cast;omega
  show WinM.mk _ _ _ (R.win.sent+(k:Int)+1) _=WinM.mk _ _ _ (R.win.sent+((k+1:Nat):Int)) _
  rw[this]
theorem passN_len(R:RepM):∀k,(passN R k).2.length=k
 | 0=>rfl
 | k+1=>by rw[passN,List.length_append,passN_len R k];rfl
theorem next_ok{W:WinM}(h:W.Ok):W.next.Ok:=by
 unfold WinM.next
 split
 ·rename_i hb
  simp only[WinM.nextB,Bool.and_eq_true,decide_eq_true_eq] at hb
  have:=h.sent0
  exact⟨h.cap0,h.cap1,h.done0,h.done1,h.last1,by show 0≤W.sent+1;omega,by show W.sent+1≤W.last;omega,h.lim0,h.lim1⟩
 ·exact h
theorem passN_ok{R:RepM}(h:R.Ok):∀k,(passN R k).1.Ok
 | 0=>h.win
 | k+1=>next_ok (passN_ok h k)
end
section
variable {p:Nat} {R:RepM} {b:Nat} {S:List SndM}
theorem pass_spec(ok:R.Ok)(hS:S.length≤800000):Tri Tryz.prog 120 [.pointer (some ⟨p,0,none⟩),sendF b] Fr w [repH p R,outH b S]
  (fun v L=>v=.tuple #[]∧L=[repH p (passR R).1,outH b (S++(passR R).2)]):=by
 have w1:=ok.win.last1;have w2:=ok.win.sent0;have w3:=ok.win.sent1;have w4:=ok.win.lim1;have w5:=ok.win.lim0
 have hlast:=ok.last
 have hK:passK R≤4096:=by unfold passK;omega
 refine TF 47 Tryz.func120 rfl ym tabOk rfl rfl ?_
 refine xic ?_
 rintro x -
 show VC _ _ _ (repO p R x b S) _
 unfold repO
 refine xdf ?_
 refine xit ?_
 refine xdf ?_
 have hnx:∀k,k≤passK R→((passN R k).1.nextB=decide (k<passK R)):=fun k hk=>by
  rw[passN_win R k hk]
  unfold passK at hk ⊢
  simp only[WinM.nextB]
  by_cases h:(R.win.sent+(k:Int)<R.win.last)∧(R.win.sent+(k:Int)<R.win.limit)
  ·rw[DT h.1,DT h.2,DT yd];rfl
  ·rw[DF (show ¬k<(min R.win.last R.win.limit-R.win.sent).toNat by omega)]
   by_cases h1:R.win.sent+(k:Int)<R.win.last
   ·rw[DT h1,DF (fun h2=>h ⟨h1,h2⟩)];rfl
   ·rw[DF h1];rfl
 refine VG (VQ 3 rfl (fun Fr w hF hs hS=>Win.next_spec Fr w ok.win) rfl (ψ:=fun v H=>v=.tuple #[.int .i64 (if R.win.nextB then R.win.sent+1 else 0),.bool R.win.nextB]∧H=winH x.wp R.win.next) yy ?_)
 rintro _ _ ⟨rfl,rfl⟩
 refine xdf ?_
 refine VC.loop (σ:=Nat) (fun k=>[(0,pV p),(1,sendF b),(4,.int .i64 R.nextM),(5,.int .i64 (if (passN R k).1.nextB then (passN R k).1.sent+1 else 0)),(6,.bool (passN R k).1.nextB)])
  (fun k=>[pt p (repCs R x) repT,slH memT 2 x.a R.ch.ms.length x.c (flat memC R.ch.ms),logH x.lp R.log,winH x.wp (passN R k).1.next,admH x.ap R.adm,rdsH x.rp R.rds,outH b (S++(passN R k).2)])
  (fun k=>k≤passK R) (fun k=>passK R-k) 0
  (Nat.zero_le _) sbZ (by rw[show(passN R 0).2=[] from rfl,List.append_nil];exact ER) ?_
 intro k hk
 have hnk:=hnx k hk
 have hwk:=passN_win R k hk
 have hpl:=passN_len R k
 have hok:=passN_ok ok k
 refine xdf ?_
 refine CC rfl (fun h1=>CK ?_) (fun h1=>CX ?_)
 ·have hk2:k<passK R:=by rw[h1] at hnk;exact of_decide_eq_true hnk.symm
  have hs1:(passN R k).1.sent=R.win.sent+k:=by rw[hwk]
  have hbd:R.win.sent+(k:Int)<R.win.last:=by unfold passK at hk2;omega
  have hwk2:(passN R (k+1)).1=(passN R k).1.next:=rfl
  rw[h1]
  obtain⟨j,e,hj1,hj2,hj3,hj4⟩:=atI_some (l:=R.log) (i:=(passN R k).1.sent+1) yd yd
  refine CS (VC.block ?_)
  refine xdf ?_
  refine VG (VV (fun Fr w hF hs hS=>Lg.at_spec Fr w (hS.at_ 2 rfl) ((passN R k).1.sent+1) yd yd) rfl ?_)
  refine xdf ?_
  refine VG (VO.alloc rfl fun eb=>?_)
  refine VG (VT (vs:=entC ((atI R.log ((passN R k).1.sent+1)).getD entZ)) 0 rfl rfl rfl rfl (NR _) rfl rfl rfl (VG (VN ?_)))
  refine CD (ts 0 9 (.only 9 .nil)) ym yr ?_
  refine xgc ?_
  refine AG (VA.ldA 0 (entC ((atI R.log ((passN R k).1.sent+1)).getD entZ)) rfl rfl rfl rfl rfl ?_)
  refine AG (AI rfl (LB (pv:=[(0,.int .i64 4),(1,.int .i64 R.ch.epoch),(10,.agg (entC ((atI R.log ((passN R k).1.sent+1)).getD entZ)).toArray)]) (fgC (forwardF R.ch.epoch ((atI R.log ((passN R k).1.sent+1)).getD entZ)) mem0) rfl rfl rfl ym rfl) ?_)
  refine AG (VA.callFAt 7 rfl rfl (fun Fr w hF hs _=>add_spec Fr w b (S++(passN R k).2) yp R.nextM (forwardF R.ch.epoch ((atI R.log ((passN R k).1.sent+1)).getD entZ))) rfl rfl (ψ:=fun v H=>v=.tuple #[]∧H=outH b (S++(passN R k).2 ++ [(R.nextM,forwardF R.ch.epoch ((atI R.log ((passN R k).1.sent+1)).getD entZ))])) yy ?_ ?_)
  ·rintro _ _ ⟨rfl,rfl⟩
   exact yu
  rintro _ _ ⟨rfl,rfl⟩
  refine xeh ?_
  refine xds ?_
  refine VG (VQ 4 rfl (fun Fr w hF hs hS=>Win.next_spec Fr w (next_ok hok)) rfl (ψ:=fun v H=>v=.tuple #[.int .i64 (if (passN R (k+1)).1.nextB then (passN R (k+1)).1.sent+1 else 0),.bool (passN R (k+1)).1.nextB]∧H=winH x.wp (passN R (k+1)).1.next) yy ?_)
  rintro _ _ ⟨rfl,rfl⟩
  refine xdf ?_
  refine⟨k+1,hk2,by dsimp only;omega,sbZ,?_⟩
  dsimp only
  rw[show(passN R (k+1)).2=(passN R k).2 ++ [(R.nextM,forwardF R.ch.epoch ((atI R.log ((passN R k).1.sent+1)).getD entZ))] from rfl,←List.append_assoc]
  exact(pkZ [1,1,1,1,1,1,1]).ent
 ·have hk2:k=passK R:=by
   rw[h1] at hnk
   have:¬k<passK R:=of_decide_eq_false hnk.symm
   omega
  have hwn:(passN R k).1.next=(passN R k).1:=by rw[WinM.next,h1];rfl
  rw[hwn,hk2]
  exact Ret.void rfl (Imp.rep (R:=(passR R).1) x (IP 0 rfl (IP 0 rfl (IP 0 rfl (IP 0 rfl (IP 0 rfl (IP 0 rfl (IP 0 rfl Imp.nil)))))))).ent ⟨rfl,rfl⟩
end
end Rep
namespace Rep
open Go Vg T Api Kv Ch Lg Rd Win Adm Sched
attribute [local irreducible] VO VC VA
def refs(epoch:Int)(gs:List FrameM)(reason:Int):List SndM:=gs.map fun f=>(32+f.client,refuseF epoch f reason)
def nextF(R:RepM)(now:Int):FrameM:=(popV (R.adm.expireM now).sch).1
def nextOk(R:RepM)(now:Int):Bool:=(popV (R.adm.expireM now).sch).2.1
def nextE(R:RepM)(now:Int):EntryM:=⟨R.log.length+1,(nextF R now).client,(nextF R now).seq,(nextF R now).op⟩
def nextA(R:RepM)(now:Int):RepM:={ R with adm:=R.adm.nextM now }
def serveR(R:RepM)(now:Int):RepM×List SndM×Bool:=
 if nextOk R now=false then (nextA R now,refs R.ch.epoch (R.adm.sch.goneM now) 2,false)
 else if logErr R.log (nextE R now)≠0 then ({ R with adm:=((R.adm.nextM now).barM (nextF R now).client (nextF R now).seq (nextF R now).try_).2 },refs R.ch.epoch (R.adm.sch.goneM now) 2 ++ [(32+(nextF R now).client,refuseF R.ch.epoch (nextF R now) 7)],true)
 else ((pushE (nextA R now) (nextE R now)).finishR,refs R.ch.epoch (R.adm.sch.goneM now) 2++(pushE (nextA R now) (nextE R now)).finishM,true)
theorem nextA_ok{R:RepM}(h:R.Ok)(now:Int):(nextA R now).Ok:=⟨h.ch,h.win,h.last,h.logc,h.logi,h.rc0,h.rc1,h.rl,h.rn0,h.rn1,h.rcl,next_calls h.wf h.calls now,next_wf h.wf now⟩
theorem barM_calls{A:AdmM}(h:A.Calls)(k s t:Int):(A.barM k s t).2.Calls:=by
 have e:(A.barM k s t).2.sch=A.sch∧(A.barM k s t).2.clients=A.clients:=by
  unfold AdmM.barM
  split
  ·exact⟨by show(A.barF k s t).sch=_;unfold AdmM.barF;split<;>rfl,barF_clients A k s t⟩
  ·exact⟨rfl,rfl⟩
 unfold AdmM.Calls
 rw[e.1,e.2];exact h
theorem adm_ok{R:RepM}(h:R.Ok){A:AdmM}(hC:A.Calls)(hW:A.Wf):({ R with adm:=A }:RepM).Ok:=⟨h.ch,h.win,h.last,h.logc,h.logi,h.rc0,h.rc1,h.rl,h.rn0,h.rn1,h.rcl,hC,hW⟩
theorem serveR_ok{R:RepM}(h:R.Ok)(hr:R.win.room=true)(now:Int):(serveR R now).1.Ok:=by
 have hn:=nextA_ok h now
 unfold serveR
 split
 ·exact hn
 split
 ·exact adm_ok h (barM_calls hn.calls _ _ _) (hn.wf.barM _ _ _)
 ·rename_i h2
  exact finishR_ok (pushE_ok hn (by show logErr R.log _=0;omega) hr)
theorem gone_few{R:RepM}(h:R.Ok)(now:Int):(R.adm.sch.goneM now).length≤64:=by
 have:=SchM.Wf.fewG h.wf.sch R.adm.sch.cls.length now
 rw[List.take_length] at this;exact this
theorem next_client{R:RepM}(h:R.Ok)(now:Int)(ho:nextOk R now=true):0≤(nextF R now).client∧(nextF R now).client<6:=by
 obtain⟨h1,h2,h3⟩:=expire_wf h.wf now
 obtain⟨k,q,e1,e2⟩:=popV_ok h1.sch ho
 have hc:=exp_calls h.wf h.calls now _ (ME e1) (nextF R now) (by simp[nextF])
 have:=h.wf.c1
 exact⟨hc.1.1,by have:=hc.1.2;rw[h2] at this;omega⟩
section
variable {p:Nat} {R:RepM} {b:Nat} {S:List SndM}
theorem serve_spec(ok:R.Ok)(hr:R.win.room=true)(hS:S.length≤800000)(now:Int):Tri Tryz.prog 119 [.pointer (some ⟨p,0,none⟩),.int .i64 now,sendF b] Fr w [repH p R,outH b S]
  (fun v L=>v=.bool (serveR R now).2.2∧L=[repH p (serveR R now).1,outH b (S++(serveR R now).2.1)]):=by
 have hg64:=gone_few ok now
 have hn:=nextA_ok ok now
 have hgc:=gone_ok ok.calls now
 have hc6:=ok.wf.c1
 refine TF 85 Tryz.func119 rfl ym tabOk rfl rfl ?_
 refine xic ?_
 rintro x -
 show VC _ _ _ (repO p R x b S) _
 unfold repO
 refine xdf ?_
 refine VO.ent (L':=[admH x.ap R.adm,pt p (repCs R x) repT,slH memT 2 x.a R.ch.ms.length x.c (flat memC R.ch.ms),logH x.lp R.log,winH x.wp R.win,rdsH x.rp R.rds,outH b S]) (pkZ [4,0,0,0,0,0,0]).ent ?_
 refine VG (VK (Lc:=[admH x.ap R.adm]) (fun Fr w hF hs hS=>Adm.next_spec Fr w x.ap R.adm now ok.wf ok.calls) rfl rfl ?_)
 rintro _ _ ⟨r,m,rok,hrx,rfl,rfl⟩
 show VO _ _ _ _ _ [r.h 198,admH x.ap (R.adm.nextM now),pt p (repCs R x) repT,slH memT 2 x.a R.ch.ms.length x.c (flat memC R.ch.ms),logH x.lp R.log,winH x.wp R.win,rdsH x.rp R.rds,outH b S] _
 refine xdf ?_
 refine VG (VO.alloc rfl fun fb=>?_)
 refine VG (VT (vs:=fmc (nextF R now,m)) 0 rfl rfl rfl rfl (NR _) rfl rfl rfl ?_)
 have hrv:r.v=.slice r.addr r.xs.length r.cap:=rfl
 rw[hrv]
 refine xdf ?_
 refine VC.loop (σ:=Nat) (fun i=>[(0,pV p),(2,sendF b),(7,pV fb),(8,.bool (nextOk R now)),(25,.slice r.addr r.xs.length r.cap),(26,.int .i64 r.xs.length),(27,.int .i64 i)])
  (fun i=>[pt fb (fmc (nextF R now,m)) frT,r.h frT,admH x.ap (R.adm.nextM now),pt p (repCs R x) repT,slH memT 2 x.a R.ch.ms.length x.c (flat memC R.ch.ms),logH x.lp R.log,winH x.wp R.win,rdsH x.rp R.rds,outH b (S++refs R.ch.epoch ((R.adm.sch.goneM now).take i) 2)])
  (fun i=>i≤r.xs.length) (fun i=>r.xs.length-i) 0
  (Nat.zero_le _) sbZ (by rw[List.take_zero,show refs R.ch.epoch [] 2=[] from rfl,List.append_nil];exact ER) ?_
 intro i hi
 have hxl:r.xs.length=(R.adm.sch.goneM now).length:=by rw[←hrx];simp
 refine xdf ?_
 refine CP rfl (fun h1=>CK ?_) (fun h1=>CX ?_)
 ·have hi2:i<r.xs.length:=by omega
  obtain⟨g,hg⟩:∃g,r.xs[i]?=some g:=⟨_,GE hi2⟩
  have hgg:(R.adm.sch.goneM now)[i]?=some g.1:=by rw[←hrx,List.getElem?_map,hg];rfl
  have hcl:=hgc g.1 (ME hgg)
  obtain⟨gb,go,r1,r2,hrd⟩:=rok.ld (t:=frT) hg rfl
  rw[r2]
  refine zpp ?_
  refine VG (VO.load rfl rfl ((hrd 1 rfl).1 _ rfl rfl) ?_)
  refine VG (VO.alloc rfl fun tb=>?_)
  refine VG (VT (vs:=fmc g) 0 rfl rfl rfl rfl (NR _) rfl rfl rfl ?_)
  refine xdf ?_
  refine VG (VL 0 (fmc g) rfl rfl rfl rfl ?_)
  refine VG (VQ 9 rfl (fun Fr w hF hs hS=>refuse_spec Fr w (hS.blk 4 rfl) yaw g.1 g.2 hcl.1.1 (by have:=hcl.1.2;omega) 2) rfl (ψ:=fun v H=>v=.tuple #[]∧H=outH b (S++refs R.ch.epoch ((R.adm.sch.goneM now).take i) 2 ++ [(32+g.1.client,refuseF R.ch.epoch g.1 2)])) yy ?_)
  rintro _ _ ⟨rfl,rfl⟩
  refine zor ?_
  refine⟨i+1,hi2,by dsimp only;omega,sbZ,?_⟩
  dsimp only
  rw[show refs R.ch.epoch ((R.adm.sch.goneM now).take (i+1)) 2=refs R.ch.epoch ((R.adm.sch.goneM now).take i) 2 ++ [(32+g.1.client,refuseF R.ch.epoch g.1 2)] by rw[List.take_add_one,hgg];simp[refs],←List.append_assoc]
  exact(pkZ [1,1,1,1,1,1,1,1,1]).ent
 ·obtain rfl:i=r.xs.length:=by omega
  rw[hxl,List.take_length]
  have hrl:(refs R.ch.epoch (R.adm.sch.goneM now) 2).length≤64:=by rw[refs,List.length_map];exact hg64
  refine xdf ?_
  refine VC.condN rfl (fun ho=>?_) (fun ho=>CK ?_)
  ·refine xdf ?_
   exact CR (Ret.tmp 6 rfl rfl (Imp.rep (R:=nextA R now) x (IP 3 rfl (IP 3 rfl (IP 3 rfl (IP 3 rfl (IP 2 rfl (IP 2 rfl (IP 2 rfl Imp.nil)))))))).ent ⟨by rw[serveR,if_pos ho],by rw[serveR,if_pos ho]⟩)
  have hno:¬nextOk R now=false:=by rw[ho];simp
  have hcf:=next_client ok now ho
  have w1:=ok.win.last1;have hla:=ok.last
  refine CS ?_
  refine VC.meetS (σ:=Nat) (fun eb=>[(0,pV p),(2,sendF b),(7,pV fb),(12,pV eb)]) (fun eb=>[pt eb (entC (nextE R now)) entT,pt fb (fmc (nextF R now,m)) frT,r.h frT,admH x.ap (R.adm.nextM now),pt p (repCs R x) repT,slH memT 2 x.a R.ch.ms.length x.c (flat memC R.ch.ms),logH x.lp R.log,winH x.wp R.win,rdsH x.rp R.rds,outH b (S++refs R.ch.epoch (R.adm.sch.goneM now) 2)]) (fun _=>True) ?_ ?_
  ·refine CD (ts 0 4 (ts 6 6 (.two 4 13 (.take 5 (.take 12 (.only 13 (.only 14 .nil)))) (.only 4 (.take 5 (.take 12 (.only 14 .nil))))))) ym yr ?_
   refine xfe ?_
   refine AG (VA.ldA 0 (nextF R now).op.cells rfl rfl rfl rfl rfl ?_)
   refine AG (VA.two rfl rfl rfl rfl rfl (OpT.callP (φ:=fun v=>v=.int .i64 R.log.length) (fun Fr w hF hs hS=>Lg.len_spec Fr w (hS.at_ 5 rfl)) rfl) rfl rfl rfl (OpT.alloc rfl) ?_ ?_ ?_ ?_)
   ·rintro _ _ ⟨rfl,rfl⟩
    exact yu
   ·rintro _ _ ⟨eb,rfl,rfl⟩
    exact yu
   ·rintro _ _ ⟨rfl,rfl⟩
    refine xeo ?_
    refine xiu ?_
    refine AG (AO (OpT.alloc rfl) rfl ?_ ?_)
    ·rintro _ _ ⟨eb,rfl,rfl⟩
     exact yu
    rintro _ _ ⟨eb,rfl,rfl⟩
    refine xiv ?_
    refine xeh ?_
    exact⟨eb,trivial,sbZ,ER⟩
   ·rintro _ _ ⟨eb,rfl,rfl⟩
    refine AG (AO (OpT.callP (φ:=fun v=>v=.int .i64 R.log.length) (fun Fr w hF hs hS=>Lg.len_spec Fr w (hS.at_ 6 rfl)) rfl) rfl ?_ ?_)
    ·rintro _ _ ⟨rfl,rfl⟩
     exact yu
    rintro _ _ ⟨rfl,rfl⟩
    refine xeo ?_
    refine xiu ?_
    refine xiv ?_
    refine xeh ?_
    exact⟨eb,trivial,sbZ,ER⟩
  rintro eb -
  refine CS (CS ?_)
  refine VC.meetS (σ:=Nat) (fun rb=>[(0,pV p),(2,sendF b),(7,pV fb),(14,.int .i64 (logErr R.log (nextE R now)))]) (fun rb=>[pt rb (resC (logRes R.log (nextE R now))) resT,pt eb (entC (nextE R now)) entT,pt fb (fmc (nextF R now,m)) frT,r.h frT,admH x.ap (R.adm.nextM now),pt p (repCs R x) repT,slH memT 2 x.a R.ch.ms.length x.c (flat memC R.ch.ms),logH x.lp (logApp R.log (nextE R now)),winH x.wp R.win,rdsH x.rp R.rds,outH b (S++refs R.ch.epoch (R.adm.sch.goneM now) 2)]) (fun _=>True) ?_ ?_
  ·refine xir ?_
   refine xfg ?_
   refine AG (VA.ldA 0 (entC (nextE R now)) rfl rfl rfl rfl rfl ?_)
   refine AG (VA.two rfl rfl rfl rfl rfl (OpT.callAt (ψ:=fun v H=>v=.tuple #[.agg (resC (logRes R.log (nextE R now))).toArray,.int .i64 (logErr R.log (nextE R now))]∧H=logH x.lp (logApp R.log (nextE R now))) 6 rfl (fun Fr w hF hs hS=>Lg.append_spec Fr w x.lp R.log (nextE R now)) rfl yy) rfl rfl rfl (OpT.alloc rfl) ?_ ?_ ?_ ?_)
   ·rintro _ _ ⟨_,⟨rfl,rfl⟩,rfl⟩
    exact yu
   ·rintro _ _ ⟨rb,rfl,rfl⟩
    exact yu
   ·rintro _ _ ⟨_,⟨rfl,rfl⟩,rfl⟩
    refine xeh ?_
    refine AG (AO (OpT.alloc rfl) rfl ?_ ?_)
    ·rintro _ _ ⟨rb,rfl,rfl⟩
     exact yu
    rintro _ _ ⟨rb,rfl,rfl⟩
    refine xiw ?_
    exact zpz
   ·rintro _ _ ⟨rb,rfl,rfl⟩
    refine AG (AO (OpT.callAt (ψ:=fun v H=>v=.tuple #[.agg (resC (logRes R.log (nextE R now))).toArray,.int .i64 (logErr R.log (nextE R now))]∧H=logH x.lp (logApp R.log (nextE R now))) 7 rfl (fun Fr w hF hs hS=>Lg.append_spec Fr w x.lp R.log (nextE R now)) rfl yy) rfl ?_ ?_)
    ·rintro _ _ ⟨_,⟨rfl,rfl⟩,rfl⟩
     exact yu
    rintro _ _ ⟨_,⟨rfl,rfl⟩,rfl⟩
    refine xeh ?_
    refine xiw ?_
    exact zpz
  rintro rb -
  refine xdf ?_
  refine VC.condNE rfl (fun he=>?_) (fun he=>CK ?_)
  ·have hap:logApp R.log (nextE R now)=R.log:=by rw[logApp,if_neg he]
   rw[hap]
   refine xff ?_
   refine xfo ?_
   refine AG (AQ 4 rfl (fun Fr w hF hs hS=>bar_spec Fr w x.ap (R.adm.nextM now) (nextF R now).client (nextF R now).seq (nextF R now).try_) rfl rfl (ψ:=fun v H=>H=admH x.ap ((R.adm.nextM now).barM (nextF R now).client (nextF R now).seq (nextF R now).try_).2) (fun v L h=>⟨_,h.2,rfl⟩) ?_ ?_)
   ·rintro _ _ rfl
    exact yu
   rintro _ _ rfl
   refine zpr ?_
   refine VG (VL 2 (fmc (nextF R now,m)) rfl rfl rfl rfl ?_)
   refine VG (VQ 10 rfl (fun Fr w hF hs hS=>refuse_spec Fr w (hS.blk 5 rfl) yp (nextF R now) m hcf.1 yd 7) rfl (ψ:=fun v H=>v=.tuple #[]∧H=outH b (S++refs R.ch.epoch (R.adm.sch.goneM now) 2 ++ [(32+(nextF R now).client,refuseF R.ch.epoch (nextF R now) 7)])) yy ?_)
   rintro _ _ ⟨rfl,rfl⟩
   refine xdf ?_
   exact CR (Ret.tmp 6 rfl rfl (Imp.rep (R:={ R with adm:=((R.adm.nextM now).barM (nextF R now).client (nextF R now).seq (nextF R now).try_).2 }) x (IP 5 rfl (IP 5 rfl (IP 5 rfl (IP 5 rfl (IP 4 rfl (IP 4 rfl (IP 4 rfl Imp.nil)))))))).ent ⟨by rw[serveR,if_neg hno,if_pos he],by rw[serveR,if_neg hno,if_pos he,←List.append_assoc]⟩)
  have hap:logApp R.log (nextE R now)=R.log ++ [nextE R now]:=by rw[logApp,if_pos he]
  rw[hap]
  have okp:=pushE_ok hn (e:=nextE R now) he hr
  refine xfl ?_
  refine VG (VQ 8 rfl (fun Fr w hF hs hS=>Win.push_spec Fr w ok.win hr) rfl (ψ:=fun v H=>v=.bool true∧H=winH x.wp { R.win with last:=R.win.last+1 }) yy ?_)
  rintro _ _ ⟨rfl,rfl⟩
  refine VO.ent (L':=[repH p (pushE (nextA R now) (nextE R now)),outH b (S++refs R.ch.epoch (R.adm.sch.goneM now) 2)]) (Imp.rep (R:=pushE (nextA R now) (nextE R now)) x (pkZ [5,5,5,5,4,4,4])).ent ?_
  refine xdf ?_
  refine VG (VK (Lc:=[repH p (pushE (nextA R now) (nextE R now)),outH b (S++refs R.ch.epoch (R.adm.sch.goneM now) 2)]) (Lr:=[]) (fun Fr w hF hs hS=>finish_spec Fr w okp yp) rfl rfl ?_)
  rintro _ _ ⟨rfl,rfl⟩
  refine xdf ?_
  exact CR (Ret.tmp 6 rfl rfl ER ⟨by rw[serveR,if_neg hno,if_neg (fun h=>h he)],by rw[serveR,if_neg hno,if_neg (fun h=>h he),←List.append_assoc];rfl⟩)
end
end Rep
namespace Rep
open Go Vg T Api Kv Ch Lg Rd Win Adm Sched
attribute [local irreducible] VO VC VA
def totQ(qs:List (List FrameM)):Nat:=(qs.map List.length).sum
def tot(A:AdmM):Nat:=totQ A.sch.qs
theorem totQ_set:∀{qs:List (List FrameM)} {k:Nat} {f:FrameM} {q:List FrameM},qs[k]?=some (f::q)→totQ (qs.set k q)+1=totQ qs
 | [],k,f,q,h=>by simp at h
 | x::qs,0,f,q,h=>by
  simp only[List.getElem?_cons_zero,Option.some.injEq] at h
  subst h
  simp[totQ];omega
 | x::qs,k+1,f,q,h=>by
  have ih:=totQ_set (qs:=qs) (k:=k) (f:=f) (q:=q) yc
  simp only[totQ,List.set_cons_succ,List.map_cons,List.sum_cons] at ih ⊢
  omega
theorem totQ_filter(p:FrameM→Bool):∀qs:List (List FrameM),totQ (qs.map fun q=>q.filter p)≤totQ qs
 | []=>NR _
 | x::qs=>by
  have ih:=totQ_filter p qs
  have:=List.length_filter_le p x
  simp only[totQ,List.map_cons,List.sum_cons] at ih ⊢
  omega
theorem tot_next{R:RepM}(h:R.Ok)(now:Int)(ho:nextOk R now=true):tot (R.adm.nextM now)<tot R.adm:=by
 obtain⟨h1,h2,h3⟩:=expire_wf h.wf now
 obtain⟨k,q,e1,e2⟩:=popV_ok h1.sch ho
 have e3:(R.adm.nextM now).sch=(popV (R.adm.expireM now).sch).2.2:=by
  unfold AdmM.nextM
  split<;>rfl
 have h4:=totQ_set e1
 have h5:=totQ_filter (stay now) R.adm.sch.qs
 rw[←exp_qs,←h3] at h5
 unfold tot
 rw[e3,e2]
 omega
theorem tot_le{R:RepM}(h:R.Ok):tot R.adm≤64:=by
 have:=SchM.Wf.few h.wf.sch R.adm.sch.cls.length
 rw[List.take_length,List.length_flatMap] at this
 show((R.adm.sch.cls.map ClsM.q).map List.length).sum≤64
 rw[List.map_map];exact this
theorem serve_tot{R:RepM}(h:R.Ok)(now:Int)(ho:(serveR R now).2.2=true):tot (serveR R now).1.adm<tot R.adm:=by
 unfold serveR at ho ⊢
 split at ho
 ·cases ho
 ·rename_i h1
  have hn:=tot_next h now (by simpa using h1)
  rw[if_neg h1]
  split
  ·have e:((R.adm.nextM now).barM (nextF R now).client (nextF R now).seq (nextF R now).try_).2.sch=(R.adm.nextM now).sch:=by
    unfold AdmM.barM
    split
    ·show((R.adm.nextM now).barF _ _ _).sch=_;unfold AdmM.barF;split<;>rfl
    ·rfl
   show tot ((R.adm.nextM now).barM _ _ _).2<_
   unfold tot at hn ⊢
   rw[e];exact hn
  ·have e:(pushE (nextA R now) (nextE R now)).finishR.adm=R.adm.nextM now:=by unfold RepM.finishR;split<;>rfl
   show tot (pushE (nextA R now) (nextE R now)).finishR.adm<_
   rw[e];exact hn
theorem serve_sends{R:RepM}(h:R.Ok)(hr:R.win.room=true)(now:Int):(serveR R now).2.1.length≤4200:=by
 have hg:(refs R.ch.epoch (R.adm.sch.goneM now) 2).length≤64:=by rw[refs,List.length_map];exact gone_few h now
 unfold serveR
 split
 ·show(refs _ _ _).length≤4200;omega
 split
 ·show(refs R.ch.epoch (R.adm.sch.goneM now) 2 ++ [(32+(nextF R now).client,refuseF R.ch.epoch (nextF R now) 7)]).length≤4200;rw[List.length_append];simp;omega
 ·rename_i h2
  have:=finishM_len (pushE_ok (nextA_ok h now) (e:=nextE R now) (by show logErr R.log _=0;omega) hr)
  show(refs R.ch.epoch (R.adm.sch.goneM now) 2++(pushE (nextA R now) (nextE R now)).finishM).length≤4200
  rw[List.length_append];omega
def serveLoop(now:Int):Nat→RepM→RepM×List SndM
 | 0,R=>(R,[])
 | k+1,R=>if R.win.room=true then
   if (serveR R now).2.2=true then ((serveLoop now k (serveR R now).1).1,(serveR R now).2.1++(serveLoop now k (serveR R now).1).2)
   else ((serveR R now).1,(serveR R now).2.1)
  else (R,[])
def expR(R:RepM)(now:Int):RepM:={ R with rds:={ R.rds with l:=R.rds.l.filter (lives now) } }
def expS(R:RepM)(now:Int):List SndM:=refs R.ch.epoch ((R.rds.l.filter (fun y=>!lives now y)).map RdM.f) 2
def servesB(R:RepM):Bool:=R.headB&&(R.whole && !R.drainsB)
def step2(R:RepM)(now:Int):RepM×List SndM:=if servesB (expR R now) then serveLoop now 65 (expR R now) else (expR R now,[])
def step3(R:RepM)(now:Int):RepM×List SndM:=if (step2 R now).1.linked then passR (step2 R now).1 else ((step2 R now).1,[])
def stepR(R:RepM)(now:Int):RepM×List SndM:=((step3 R now).1,expS R now++(step2 R now).2++(step3 R now).2)
theorem expR_ok{R:RepM}(h:R.Ok)(now:Int):(expR R now).Ok:=⟨h.ch,h.win,h.last,h.logc,h.logi,h.rc0,h.rc1,by
 have:=h.rl;have h2:=List.length_filter_le (lives now) R.rds.l
 show((R.rds.l.filter (lives now)).length:Int)≤R.rds.cap;omega,h.rn0,h.rn1,fun y hy=>h.rcl y (List.mem_filter.1 hy).1,h.calls,h.wf⟩
theorem serveLoop_ok(now:Int):∀(k:Nat) {R:RepM},R.Ok→(serveLoop now k R).1.Ok
 | 0,R,h=>h
 | k+1,R,h=>by
  rw[serveLoop]
  split
  ·rename_i hr
   split
   ·exact serveLoop_ok now k (serveR_ok h hr now)
   ·exact serveR_ok h hr now
  ·exact h
theorem serveLoop_len(now:Int):∀(k:Nat) {R:RepM},R.Ok→(serveLoop now k R).2.length≤k*4200
 | 0,R,h=>NR _
 | k+1,R,h=>by
  rw[serveLoop]
  split
  ·rename_i hr
   have h1:=serve_sends h hr now
   split
   ·have:=serveLoop_len now k (serveR_ok h hr now)
    rw[List.length_append];omega
   ·show(serveR R now).2.1.length≤_;omega
  ·simp
theorem passR_ok{R:RepM}(h:R.Ok):(passR R).1.Ok:=by
 have hw:=passN_ok h (passK R)
 have e:=passN_win R (passK R) (NR _)
 exact⟨h.ch,hw,by show(passN R (passK R)).1.last=_;rw[e];exact h.last,h.logc,h.logi,h.rc0,h.rc1,h.rl,h.rn0,h.rn1,h.rcl,h.calls,h.wf⟩
theorem step2_ok{R:RepM}(h:R.Ok)(now:Int):(step2 R now).1.Ok:=by
 unfold step2
 split
 ·exact serveLoop_ok now 65 (expR_ok h now)
 ·exact expR_ok h now
theorem stepR_ok{R:RepM}(h:R.Ok)(now:Int):(stepR R now).1.Ok:=by
 show(step3 R now).1.Ok
 unfold step3
 split
 ·exact passR_ok (step2_ok h now)
 ·exact step2_ok h now
section
variable {p:Nat} {R:RepM}
def sent(S:List SndM)(v:Value)(L:List HP)(H:List HP):Prop:=∃a c,v=.slice a S.length c∧L=H ++ [slH sndT 30 a S.length c (flat sndC S)]
theorem step_spec(ok:R.Ok)(now:Int):Tri Tryz.prog 80 [.pointer (some ⟨p,0,none⟩),.int .i64 now] Fr w [repH p R]
  (fun v L=>sent (stepR R now).2 v L [repH p (stepR R now).1]):=by
 have hrl:R.rds.l.length≤16:=by have:=ok.rl;have:=ok.rc1;omega
 have ok1:=expR_ok ok now
 have ok2:=step2_ok ok now
 refine TF 72 Tryz.func80 rfl ym tabOk rfl rfl ?_
 refine xic ?_
 rintro x -
 show VC _ _ _ [pt p (repCs R x) repT,slH memT 2 x.a R.ch.ms.length x.c (flat memC R.ch.ms),logH x.lp R.log,winH x.wp R.win,admH x.ap R.adm,rdsH x.rp R.rds] _
 refine xdf ?_
 refine xix ?_
 refine zpb ?_
 refine VG (VO.alloc rfl fun ob=>?_)
 refine xdf ?_
 refine xiy ?_
 refine xds ?_
 refine VO.ent (L':=[rdsH x.rp R.rds,pt p (repCs R x) repT,slH memT 2 x.a R.ch.ms.length x.c (flat memC R.ch.ms),logH x.lp R.log,winH x.wp R.win,admH x.ap R.adm,outH ob []]) (IP 6 rfl (IP 1 rfl (IP 1 rfl (IP 1 rfl (IP 1 rfl (IP 1 rfl (Imp.out (none,0) (IP 0 rfl (Imp.slNil Imp.nil))))))))).ent ?_
 refine VG (VK (Lc:=[rdsH x.rp R.rds]) (fun Fr w hF hs hS=>Rd.expire_spec Fr w ok.rc0 yd now) rfl rfl ?_)
 rintro _ _ ⟨ga,gc,rows,hrows,rfl,rfl⟩
 have hrowl:rows.length≤16:=by
  have:=congrArg List.length hrows
  rw[List.length_map] at this
  have h2:=List.length_filter_le (fun y=>!lives now y) R.rds.l
  omega
 show VO _ _ _ _ _ [rdsH x.rp (expR R now).rds,slH rdT 34 ga rows.length gc (flat rdC rows),pt p (repCs R x) repT,slH memT 2 x.a R.ch.ms.length x.c (flat memC R.ch.ms),logH x.lp R.log,winH x.wp R.win,admH x.ap R.adm,outH ob []] _
 refine VO.opn 1 rfl (HOpn.rl rdT ga gc rows rdC_len) ?_
 rintro r ⟨rok,hrv,hrx⟩
 show VO _ _ _ _ _ [r.h rdT,rdsH x.rp (expR R now).rds,pt p (repCs R x) repT,slH memT 2 x.a R.ch.ms.length x.c (flat memC R.ch.ms),logH x.lp R.log,winH x.wp R.win,admH x.ap R.adm,outH ob []] _
 refine xdf ?_
 have hexp:∀i,i≤rows.length→((rows.take i).map fun y=>y.1.f).length=i:=fun i hi=>by simp;omega
 refine VC.loop (σ:=Nat) (fun i=>[(0,pV p),(1,.int .i64 now),(5,pV ob),(6,sendF ob),(18,.slice ga rows.length gc),(19,.int .i64 rows.length),(20,.int .i64 i)])
  (fun i=>[r.h rdT,rdsH x.rp (expR R now).rds,pt p (repCs R x) repT,slH memT 2 x.a R.ch.ms.length x.c (flat memC R.ch.ms),logH x.lp R.log,winH x.wp R.win,admH x.ap R.adm,outH ob (refs R.ch.epoch ((rows.take i).map fun y=>y.1.f) 2)])
  (fun i=>i≤rows.length) (fun i=>rows.length-i) 0
  (Nat.zero_le _) sbZ ER ?_
 intro i hi
 refine xdf ?_
 refine CP rfl (fun h1=>CK ?_) (fun h1=>CX ?_)
 ·have hi2:i<rows.length:=by omega
  obtain⟨g,hg⟩:∃g,rows[i]?=some g:=⟨_,GE hi2⟩
  have hgm:g.1∈R.rds.l:=by
   have h2:g.1∈rows.map Prod.fst:=List.mem_map.2 ⟨g,ME hg,rfl⟩
   rw[hrows] at h2
   exact(List.mem_filter.1 h2).1
  have hcl:=ok.rcl g.1 hgm
  obtain⟨gb,go,r1,r2,hrd⟩:=rok.ld (t:=rdT) (hrx▸hg) rfl
  obtain rfl:ga=some ⟨gb,go,none⟩:=by rw[RL.v,r2,hrx] at hrv;injection hrv with e1;exact e1.symm
  refine zpp ?_
  refine xiz ?_
  refine VG (VO.alloc rfl fun tb=>?_)
  refine xja ?_
  refine xdf ?_
  refine VG (VL 0 (fgC g.1.f g.2) rfl rfl rfl rfl ?_)
  refine VG (VQ 8 rfl (fun Fr w hF hs hS=>refuse_spec Fr w (hS.blk 3 rfl) (by rw[refs,List.length_map,hexp i yd];omega) g.1.f g.2 hcl.1 yd 2) rfl (ψ:=fun v H=>v=.tuple #[]∧H=outH ob (refs R.ch.epoch ((rows.take i).map fun y=>y.1.f) 2 ++ [(32+g.1.f.client,refuseF R.ch.epoch g.1.f 2)])) yy ?_)
  rintro _ _ ⟨rfl,rfl⟩
  refine zor ?_
  refine⟨i+1,hi2,by dsimp only;omega,sbZ,?_⟩
  dsimp only
  rw[show refs R.ch.epoch ((rows.take (i+1)).map fun y=>y.1.f) 2=refs R.ch.epoch ((rows.take i).map fun y=>y.1.f) 2 ++ [(32+g.1.f.client,refuseF R.ch.epoch g.1.f 2)] by rw[List.take_add_one,hg];simp[refs]]
  exact(pkZ [1,1,1,1,1,1,1,1]).ent
 obtain rfl:i=rows.length:=by omega
 rw[List.take_length]
 have hes:refs R.ch.epoch (rows.map fun y=>y.1.f) 2=expS R now:=by
  unfold expS
  rw[←hrows,List.map_map];rfl
 have hel:(expS R now).length≤16:=by rw[←hes,refs,List.length_map,List.length_map];exact hrowl
 rw[hes]
 refine CN (L':=[repH p (expR R now),outH ob (expS R now)]) (Imp.rep (R:=expR R now) x (pkZ [2,2,2,2,2,1,1])).ent ?_
 have hl2:(step2 R now).2.length≤273000:=by
  unfold step2
  split
  ·have:=serveLoop_len now 65 ok1;omega
  ·simp
 refine CS ?_
 refine VC.meetS (σ:=Unit) (fun _=>[(0,pV p),(5,pV ob),(6,sendF ob)]) (fun _=>[repH p (step2 R now).1,outH ob (expS R now++(step2 R now).2)]) (fun _=>True) ?_ ?_
 ·have no:servesB (expR R now)=false→∀{X:Cx} {y:RepS},Ent X (repO p (expR R now) y ob (expS R now)) [repH p (step2 R now).1,outH ob (expS R now++(step2 R now).2)]:=fun h {X} {y}=>by
   have e:step2 R now=(expR R now,[]):=by rw[step2,h];rfl
   rw[e,List.append_nil];exact repO_shut.ent
  refine VC.opn 0 rfl (HOpn.rep p (expR R now)) ?_
  rintro x2 -
  show VC _ _ _ (repO p (expR R now) x2 ob (expS R now)) _
  refine xdf ?_
  refine VG (VV (fun Fr w hF hs hS=>head_spec Fr w (RepIn.pcs hS 0 rfl rfl rfl rfl rfl rfl).blk (RepIn.pcs hS 0 rfl rfl rfl rfl rfl rfl).mem ok1.ch) rfl ?_)
  refine xdf ?_
  cases h1:(expR R now).headB with
  | false=>
   refine VG (VY 32 false rfl rfl ?_)
   refine xdn ?_
   refine VG (VY 38 false rfl rfl ?_)
   refine zph ?_
   exact⟨(),trivial,sbZ,no (by rw[servesB,h1];rfl)⟩
  | true=>
  refine VG (VY 32 true rfl rfl ?_)
  refine xdn ?_
  cases h2:R.whole with
  | false=>
   refine VG (VY 38 false rfl h2 ?_)
   refine zph ?_
   exact⟨(),trivial,sbZ,no (by rw[servesB,h1];show(true&&(R.whole&&_))=false;rw[h2];rfl)⟩
  | true=>
  refine VG (VY 38 true rfl h2 ?_)
  refine xdn ?_
  refine VG (VV (fun Fr w hF hs hS=>drains_spec Fr w (RepIn.pcs hS 0 rfl rfl rfl rfl rfl rfl).blk) rfl ?_)
  refine xdn ?_
  refine VC.condN rfl (fun h3=>?_) (fun h3=>CK ?_)
  rotate_left
  ·exact⟨(),trivial,sbZ,no (by rw[servesB,h1,h3];show(true&&(R.whole&&_))=false;rw[h2];rfl)⟩
  have hsb:servesB (expR R now)=true:=by rw[servesB,h1,h3];show(true&&(R.whole&&_))=true;rw[h2];rfl
  have he2:step2 R now=serveLoop now 65 (expR R now):=by rw[step2,hsb];rfl
  have ht:=tot_le ok1
  refine CN (L':=[repH p (expR R now),outH ob (expS R now)]) repO_shut.ent ?_
  refine xdf ?_
  refine VC.loop (σ:=Nat×RepM×List SndM) (fun _=>[(0,pV p),(1,.int .i64 now),(5,pV ob),(6,sendF ob)]) (fun y=>[repH p y.2.1,outH ob (expS R now++y.2.2)])
   (fun y=>y.2.1.Ok∧tot y.2.1.adm<y.1∧y.2.2.length+y.1*4200≤273000∧serveLoop now 65 (expR R now)=((serveLoop now y.1 y.2.1).1,y.2.2++(serveLoop now y.1 y.2.1).2)) (fun y=>y.1) (65,expR R now,[])
   ⟨ok1,by dsimp only;omega,by simp,rfl⟩ sbZ (by dsimp only;rw[List.append_nil];exact ER) ?_
  rintro⟨k,Q,T⟩ ⟨okQ,htQ,hlT,hlp⟩
  dsimp only at okQ htQ hlT hlp ⊢
  obtain⟨k,rfl⟩:∃j,k=j+1:=⟨k-1,by omega⟩
  have q1:=okQ.win.last1;have q2:=okQ.last
  refine VC.opn 0 rfl (HOpn.rep p Q) ?_
  rintro x3 -
  show VC _ _ _ (repO p Q x3 ob (expS R now++T)) _
  unfold repO
  refine xdf ?_
  refine VG (VV (fun Fr w hF hs hS=>Win.free_spec Fr w (hS.blk 3 rfl) okQ.win) rfl ?_)
  refine xdf ?_
  by_cases hroom:Q.win.room=true
  ·have hr2:Q.win.last<Q.win.done+Q.win.cap∧Q.win.last<4096:=by simpa[WinM.room] using hroom
   refine VG (VY 49 true rfl (DT yd) ?_)
   refine xdn ?_
   refine VG (VV (fun Fr w hF hs hS=>Lg.len_spec Fr w (hS.at_ 2 rfl)) rfl ?_)
   refine xdn ?_
   refine VG (VY 57 true rfl (DT yd) ?_)
   refine xdn ?_
   refine VO.ent (L':=[repH p Q,outH ob (expS R now++T)]) (repO_shut (x:=x3)).ent ?_
   refine VG (VK (Lc:=[repH p Q,outH ob (expS R now++T)]) (Lr:=[]) (fun Fr w hF hs hS=>serve_spec Fr w okQ hroom yp now) rfl rfl ?_)
   rintro _ _ ⟨rfl,rfl⟩
   have hss:=serve_sends okQ hroom now
   refine xdn ?_
   refine CC rfl (fun hs=>CK ?_) (fun hs=>CX ?_)
   ·have hst:=serve_tot okQ now hs
    refine xdf ?_
    refine CK ?_
    refine⟨(k,(serveR Q now).1,T++(serveR Q now).2.1),⟨serveR_ok okQ hroom now,by dsimp only;omega,by dsimp only;rw[List.length_append];omega,?_⟩,by dsimp only;omega,sbZ,?_⟩
    ·dsimp only
     rw[hlp,serveLoop,if_pos hroom,if_pos hs,List.append_assoc]
    ·dsimp only;rw[←List.append_assoc];exact ER
   ·refine⟨(),trivial,sbZ,?_⟩
    rw[he2,hlp,serveLoop,if_pos hroom,if_neg (by rw[hs];simp),←List.append_assoc]
    exact ER
  ·have hr2:¬(0<max (min (Q.win.done+Q.win.cap) 4096-Q.win.last) 0):=fun h=>hroom (by simp only[WinM.room,Bool.and_eq_true,decide_eq_true_eq];omega)
   refine VG (VY 49 false rfl (DF hr2) ?_)
   refine xdn ?_
   refine VG (VY 57 false rfl rfl ?_)
   refine xdn ?_
   refine VC.condF rfl (CX ?_)
   refine⟨(),trivial,sbZ,?_⟩
   rw[he2,hlp,serveLoop,if_neg hroom,List.append_nil]
   exact(repO_shut (x:=x3)).ent
 rintro _ -
 refine CS ?_
 refine VC.meetS (σ:=Unit) (fun _=>[(5,pV ob)]) (fun _=>[repH p (stepR R now).1,outH ob (stepR R now).2]) (fun _=>True) ?_ ?_
 ·refine VC.opn 0 rfl (HOpn.rep p (step2 R now).1) ?_
  rintro x2 -
  show VC _ _ _ (repO p (step2 R now).1 x2 ob (expS R now++(step2 R now).2)) _
  unfold repO
  refine xdf ?_
  refine CC rfl (fun hk=>?_) (fun hk=>CK ?_)
  ·have e3:step3 R now=passR (step2 R now).1:=by rw[step3,hk];rfl
   refine CN (L':=[repH p (step2 R now).1,outH ob (expS R now++(step2 R now).2)]) (repO_shut (x:=x2)).ent ?_
   refine xdf ?_
   refine VG (VK (Lc:=[repH p (step2 R now).1,outH ob (expS R now++(step2 R now).2)]) (Lr:=[]) (fun Fr w hF hs hS=>pass_spec Fr w ok2 yp) rfl rfl ?_)
   rintro _ _ ⟨rfl,rfl⟩
   refine xdf ?_
   exact⟨(),trivial,sbZ,by show Ent _ _ [repH p (step3 R now).1,outH ob (expS R now++(step2 R now).2++(step3 R now).2)];rw[e3];exact ER⟩
  ·have e3:step3 R now=((step2 R now).1,[]):=by rw[step3,hk];rfl
   exact⟨(),trivial,sbZ,by show Ent _ _ [repH p (step3 R now).1,outH ob (expS R now++(step2 R now).2++(step3 R now).2)];rw[e3,List.append_nil];exact(repO_shut (x:=x2)).ent⟩
 rintro _ -
 refine VC.opn 1 rfl (HOpn.out ob _) ?_
 rintro⟨a,c⟩ -
 show VC _ _ _ [pt ob [.slice a (stepR R now).2.length c] outT,slH sndT 30 a (stepR R now).2.length c (flat sndC (stepR R now).2),repH p (stepR R now).1] _
 refine xdf ?_
 exact xjb
end
end Rep
namespace Rep
open Go Vg T Api Kv Ch Lg Rd Win Adm Sched
attribute [local irreducible] VO VC VA
theorem copied_spec{c:ChM}{a:Option Addr}{cap:Nat}(h:RwIn memC 2 Fr w a c.ms)(hl:c.ms.length≤1000000):Tri Tryz.prog 58 [.agg (c.cells a cap).toArray] Fr w []
  (fun v L=>∃a' c',v=.agg (c.cells a' c').toArray∧L=[slH memT 2 a' c.ms.length c' (flat memC c.ms)]):=by
 refine TF 8 Tryz.func58 rfl ym tabOk rfl rfl ?_
 refine CS (CG (VG (VB (vs:=c.cells a cap) rfl (fun b=>VG (VO.alloc rfl fun d=>VG (VN ?_))))))
 refine xds ?_
 refine xjc ?_
 refine VG (VO.append (m:=c.ms.length) (news:=flat memC c.ms) 0 rfl rfl rfl rfl rfl rfl rfl (RwIn.row memC_len h) (flat_all memC_one _) yax yd fun a' c' _=>?_)
 rw[Nat.zero_add,List.nil_append]
 refine xdf ?_
 refine xjd ?_
 refine CS (CG (VG (VL 2 (c.cells a' c') rfl rfl rfl rfl (VG (VT (vs:=c.cells a' c') (cs':=c.cells a' c') 1 rfl rfl rfl rfl (NR _) rfl rfl rfl (VG (VN ?_)))))))
 exact xje
def maxI:Int:=9223372036854775807
def ent1(R:RepM)(c:ChM):RepM:={ R with adm:=R.adm.expireM maxI,rds:={ R.rds with l:=[] },ch:=c }
def nlB(R:RepM)(c:ChM):Bool:=(sinceOf c R.id).2&&decide ((sinceOf c R.id).1≠R.since)
def nwB(R:RepM)(c:ChM):Bool:=!(sinceOf c R.id).2||decide ((sinceOf c R.id).1≠R.since)
def ent2(R:RepM)(c:ChM):RepM:={ ent1 R c with log:=if nlB R c then [] else R.log,win:=if nlB R c then WinM.new R.cap else R.win }
def ent3(R:RepM)(c:ChM):RepM:={ ent2 R c with whole:=if nwB R c then false else R.whole }
def ent4(R:RepM)(c:ChM):RepM:={ ent3 R c with since:=(sinceOf c R.id).1,linked:=false,have_:=0,base:=-1,win:={ (ent2 R c).win with sent:=(ent2 R c).win.last,limit:=0 } }
def ent5(R:RepM)(c:ChM):RepM:=if (ent4 R c).whole then { ent4 R c with start:=(ent4 R c).win.last } else ent4 R c
def entG(R:RepM)(c:ChM):List SndM:=refs c.epoch (R.adm.sch.goneM maxI) 9++refs c.epoch (R.rds.l.map RdM.f) 9
def enterR(R:RepM)(c:ChM):RepM×List SndM:=((ent5 R c).finishR,entG R c++(ent5 R c).finishM++(ent5 R c).finishR.greetM++(ent5 R c).finishR.baseM++(ent5 R c).finishR.masterM)
theorem ent1_ok{R:RepM}(h:R.Ok){c:ChM}(hc:ChS c):(ent1 R c).Ok:=⟨hc,h.win,h.last,h.logc,h.logi,h.rc0,h.rc1,by show(0:Int)≤_;have:=h.rc0;exact Int.le_trans yo this,h.rn0,h.rn1,fun y hy=>absurd hy (List.not_mem_nil),(by
  obtain⟨h1,h2,h3⟩:=expire_wf h.wf maxI
  intro q hq g hg
  have:=exp_calls h.wf h.calls maxI q hq g hg
  exact this),(expire_wf h.wf maxI).1⟩
theorem ent2_ok{R:RepM}(h:R.Ok){c:ChM}(hc:ChS c)(h0:1≤R.cap)(h1:R.cap≤16):(ent2 R c).Ok:=by
 have k:=ent1_ok h hc
 refine⟨hc,?_,?_,?_,?_,k.rc0,k.rc1,k.rl,k.rn0,k.rn1,k.rcl,k.calls,k.wf⟩
 ·show(if nlB R c then WinM.new R.cap else R.win).Ok;split;exact WinM.new_ok h0 h1;exact h.win
 ·show(if nlB R c then WinM.new R.cap else R.win).last=((if nlB R c then [] else R.log).length:Int);split;rfl;exact h.last
 ·show ∀e∈(if nlB R c then [] else R.log),_;split;exact fun e he=>absurd he List.not_mem_nil;exact h.logc
 ·show ∀e∈(if nlB R c then [] else R.log),1≤e.index∧e.index≤((if nlB R c then [] else R.log).length:Int);split;exact fun e he=>absurd he List.not_mem_nil;exact h.logi
theorem ent4_ok{R:RepM}(h:R.Ok){c:ChM}(hc:ChS c)(h0:1≤R.cap)(h1:R.cap≤16):(ent4 R c).Ok:=by
 have k:=ent2_ok h hc h0 h1
 have w:=k.win
 exact⟨hc,⟨w.cap0,w.cap1,w.done0,w.done1,w.last1,by have:=w.done0;have:=w.done1;show 0≤(ent2 R c).win.last;omega,Int.le_refl _,Int.le_refl _,(by decide:(0:Int)≤4112)⟩,k.last,k.logc,k.logi,k.rc0,k.rc1,k.rl,k.rn0,k.rn1,k.rcl,k.calls,k.wf⟩
theorem ent5_ok{R:RepM}(h:R.Ok){c:ChM}(hc:ChS c)(h0:1≤R.cap)(h1:R.cap≤16):(ent5 R c).Ok:=by
 have k:=ent4_ok h hc h0 h1
 unfold ent5
 split
 ·exact⟨k.ch,k.win,k.last,k.logc,k.logi,k.rc0,k.rc1,k.rl,k.rn0,k.rn1,k.rcl,k.calls,k.wf⟩
 ·exact k
theorem enterR_ok{R:RepM}(h:R.Ok){c:ChM}(hc:ChS c)(h0:1≤R.cap)(h1:R.cap≤16):(enterR R c).1.Ok:=finishR_ok (ent5_ok h hc h0 h1)
section
variable {p:Nat} {R:RepM} {b:Nat} {S:List SndM} {c:ChM} {a:Option Addr} {cap:Nat}
theorem enter_spec(ok:R.Ok)(hc0:1≤R.cap)(hc1:R.cap≤16)(hS:S.length≤800000)(hm:RwIn memC 2 Fr w a c.ms)(hc:ChS c):Tri Tryz.prog 191 [.pointer (some ⟨p,0,none⟩),.agg (c.cells a cap).toArray,sendF b] Fr w [repH p R,outH b S]
  (fun v L=>v=.tuple #[]∧L=[repH p (enterR R c).1,outH b (S++(enterR R c).2)]):=by
 have hg64:=gone_few ok maxI
 have hgc:=gone_ok ok.calls maxI
 have hrl:=ok.rl;have hrc:=ok.rc1
 have hcl:=hc.len
 have ok2:=ent2_ok ok hc hc0 hc1
 have ok4:=ent4_ok ok hc hc0 hc1
 have ok5:=ent5_ok ok hc hc0 hc1
 refine TF 143 Tryz.func191 rfl ym tabOk rfl rfl ?_
 refine CS (CG (VG (VB (vs:=c.cells a cap) rfl fun cb=>VG (VN ?_))))
 refine xim ?_
 rintro x -
 refine CN (L':=[admH x.ap R.adm,pt p (repCs R x) repT,slH memT 2 x.a R.ch.ms.length x.c (flat memC R.ch.ms),logH x.lp R.log,winH x.wp R.win,rdsH x.rp R.rds,pt cb (c.cells a cap) chT,outH b S]) (pkZ [4,0,0,0,0,0,0,0]).ent ?_
 refine CS ?_
 refine CD (ts 0 4 (ts 5 4 (.only 4 (.only 9 (ts 10 2 .nil))))) ym yr ?_
 refine xgc ?_
 refine AG (AO (OC (Lc:=[admH x.ap R.adm]) (R:=goneL x.ap (R.adm.expireM maxI) (R.adm.sch.goneM maxI)) rfl (.refl _) (fun Fr w hF hs hS=>Adm.flush_spec Fr w x.ap R.adm ok.calls)) rfl ?_ ?_)
 ·rintro _ _ ⟨_,⟨r,rok,hrx,rfl,rfl⟩,rfl⟩
  exact yu
 rintro _ _ ⟨_,⟨r,rok,hrx,rfl,rfl⟩,rfl⟩
 refine xgd ?_
 refine VA.ent (L':=[rdsH x.rp R.rds,r.h frT,admH x.ap (R.adm.expireM maxI),pt p (repCs R x) repT,slH memT 2 x.a R.ch.ms.length x.c (flat memC R.ch.ms),logH x.lp R.log,winH x.wp R.win,pt cb (c.cells a cap) chT,outH b S]) (pkZ [6,0,0,0,0,0,0,0,0]).ent ?_
 refine AG (AO (OC (Lc:=[rdsH x.rp R.rds]) (R:=fun v L=>∃a c rows,rows.map Prod.fst=R.rds.l∧v=.slice a rows.length c∧L=[rdsH x.rp { R.rds with l:=[] },slH rdT 34 a rows.length c (flat rdC rows)]) rfl (.refl _) (fun Fr w hF hs hS=>Rd.flush_spec Fr w ok.rc0 yd)) rfl ?_ ?_)
 ·rintro _ _ ⟨_,⟨ga,gc,rows,hrows,rfl,rfl⟩,rfl⟩
  exact yu
 rintro _ _ ⟨_,⟨ga,gc,rows,hrows,rfl,rfl⟩,rfl⟩
 have hrowl:rows.length≤16:=by
  have:=congrArg List.length hrows
  rw[List.length_map] at this
  omega
 have hrv:r.v=.slice r.addr r.xs.length r.cap:=rfl
 rw[hrv]
 refine xfg ?_
 show VC _ _ _ [rdsH x.rp (ent1 R c).rds,slH rdT 34 ga rows.length gc (flat rdC rows),r.h frT,admH x.ap (ent1 R c).adm,pt p (repCs R x) repT,slH memT 2 x.a R.ch.ms.length x.c (flat memC R.ch.ms),logH x.lp R.log,winH x.wp R.win,pt cb (c.cells a cap) chT,outH b S] _
 refine CS (CG ?_)
 refine xdf ?_
 refine VG (VL 8 (c.cells a cap) rfl rfl rfl rfl ?_)
 refine xjf ?_
 rintro _ _ ⟨a',c',rfl,rfl⟩
 refine VG (VT (vs:=c.cells a' c') (cs':=repCs (ent1 R c) { x with a:=a',c:=c' }) 5 rfl rfl rfl rfl (by show 4+3≤17;omega) rfl rfl rfl ?_)
 refine xeg ?_
 refine CN (L':=[pt p (repCs (ent1 R c) { x with a:=a',c:=c' }) repT,slH memT 2 a' c.ms.length c' (flat memC c.ms),logH x.lp R.log,winH x.wp R.win,admH x.ap (ent1 R c).adm,rdsH x.rp (ent1 R c).rds,slH rdT 34 ga rows.length gc (flat rdC rows),r.h frT,outH b S]) (pkZ [5,0,5,5,3,0,0,0,2]).ent ?_
 refine CS (CD (ts 0 8 (.only 8 (ts 9 5 .nil))) ym yr ?_)
 refine xeh ?_
 refine AG (VA.ldA 0 (c.cells a' c') rfl rfl rfl rfl rfl ?_)
 refine xeh ?_
 refine AG (AR (fun Fr w hF hs hS=>Ch.since_spec Fr w (RwIn.slH memC_len (hS.at_ 1 rfl)) yd R.id) rfl rfl yu ?_)
 refine xeh ?_
 have hE:∀{E:Env} {s:RepS},True:=fun {_} {_}=>trivial
 refine CS ?_
 refine VC.meetS (σ:=RepS) (fun _=>[(0,pV p),(2,sendF b),(6,.slice r.addr r.xs.length r.cap),(7,.slice ga rows.length gc),(8,.int .i64 (sinceOf c R.id).1),(9,.bool (sinceOf c R.id).2)])
  (fun y=>[pt p (repCs (ent2 R c) y) repT,slH memT 2 y.a c.ms.length y.c (flat memC c.ms),logH y.lp (ent2 R c).log,winH y.wp (ent2 R c).win,admH y.ap (ent1 R c).adm,rdsH y.rp (ent1 R c).rds,slH rdT 34 ga rows.length gc (flat rdC rows),r.h frT,outH b S]) (fun _=>True) ?_ ?_
 ·have S6:∀{E:Env},Vg.look E 0=some (.pointer (some ⟨p,0,none⟩))→Vg.look E 2=some (sendF b)→Vg.look E 6=some (.slice r.addr r.xs.length r.cap)→Vg.look E 7=some (.slice ga rows.length gc)→Vg.look E 8=some (.int .i64 (sinceOf c R.id).1)→Vg.look E 9=some (.bool (sinceOf c R.id).2) →
    Sub [(0,pV p),(2,sendF b),(6,.slice r.addr r.xs.length r.cap),(7,.slice ga rows.length gc),(8,.int .i64 (sinceOf c R.id).1),(9,.bool (sinceOf c R.id).2)] E:=fun h0 h1 h2 h3 h4 h5=>SC h0 (SC h1 (SC h2 (SC h3 (SC h4 (SC h5 (SN _))))))
  have no:nlB R c=false→∀{X:Cx},Ent X [pt p (repCs (ent1 R c) { x with a:=a',c:=c' }) repT,slH memT 2 a' c.ms.length c' (flat memC c.ms),logH x.lp R.log,winH x.wp R.win,admH x.ap (ent1 R c).adm,rdsH x.rp (ent1 R c).rds,slH rdT 34 ga rows.length gc (flat rdC rows),r.h frT,outH b S]
    [pt p (repCs (ent2 R c) { x with a:=a',c:=c' }) repT,slH memT 2 a' c.ms.length c' (flat memC c.ms),logH x.lp (ent2 R c).log,winH x.wp (ent2 R c).win,admH x.ap (ent1 R c).adm,rdsH x.rp (ent1 R c).rds,slH rdT 34 ga rows.length gc (flat rdC rows),r.h frT,outH b S]:=fun h {X}=>by
   rw[show(ent2 R c).log=R.log by show(if nlB R c then [] else R.log)=_;rw[h];rfl,show(ent2 R c).win=R.win by show(if nlB R c then WinM.new R.cap else R.win)=_;rw[h];rfl]
   exact ER
  refine xdf ?_
  by_cases h1:(sinceOf c R.id).2=true
  rotate_left
  ·have h1:(sinceOf c R.id).2=false:=by simpa using h1
   refine VG (VY 42 false rfl h1 ?_)
   refine zph ?_
   exact⟨{ x with a:=a',c:=c' },trivial,S6 rfl rfl rfl rfl rfl rfl,no (by rw[nlB,h1];rfl)⟩
  refine VG (VY 42 true rfl h1 ?_)
  refine xdn ?_
  refine VC.condNE (i:=(sinceOf c R.id).1) (j:=R.since) rfl (fun h2=>?_) (fun h2=>CK ?_)
  rotate_left
  ·exact⟨{ x with a:=a',c:=c' },trivial,S6 rfl rfl rfl rfl rfl rfl,no (by rw[nlB,h1,h2];simp)⟩
  refine xdf ?_
  refine VG (VK (Lc:=[]) (fun Fr w _ _ _=>Lg.new_spec Fr w) rfl rfl ?_)
  rintro _ _ ⟨lp,rfl,rfl⟩
  refine VG (VO.st 1 (cs':=repCs (ent1 R c) { x with a:=a',c:=c',lp:=lp }) rfl rfl rfl rfl (by show 9<17;omega) rfl rfl ?_)
  refine xds ?_
  refine VG (VK (Lc:=[]) (fun Fr w _ _ _=>Win.new_spec Fr w hc0 hc1) rfl rfl ?_)
  rintro _ _ ⟨wp,rfl,rfl⟩
  refine xdf ?_
  refine VG (VO.st 2 (cs':=repCs (ent1 R c) { x with a:=a',c:=c',lp:=lp,wp:=wp }) rfl rfl rfl rfl (by show 10<17;omega) rfl rfl ?_)
  refine xdf ?_
  have hn:nlB R c=true:=by rw[nlB,h1,DT h2];rfl
  refine⟨{ x with a:=a',c:=c',lp:=lp,wp:=wp },trivial,S6 rfl rfl rfl rfl rfl rfl,?_⟩
  rw[show(ent2 R c).log=[] by show(if nlB R c then [] else R.log)=_;rw[hn];rfl,show(ent2 R c).win=WinM.new R.cap by show(if nlB R c then WinM.new R.cap else R.win)=_;rw[hn];rfl]
  exact(pkZ [2,2,1,0,2,2,2,2,2]).ent
 rintro y -
 have ewhole:(ent2 R c).whole=R.whole:=rfl
 refine CS ?_
 refine VC.meetS (σ:=Unit) (fun _=>[(0,pV p),(2,sendF b),(6,.slice r.addr r.xs.length r.cap),(7,.slice ga rows.length gc),(8,.int .i64 (sinceOf c R.id).1)])
  (fun _=>[pt p (repCs (ent3 R c) y) repT,slH memT 2 y.a c.ms.length y.c (flat memC c.ms),logH y.lp (ent2 R c).log,winH y.wp (ent2 R c).win,admH y.ap (ent1 R c).adm,rdsH y.rp (ent1 R c).rds,slH rdT 34 ga rows.length gc (flat rdC rows),r.h frT,outH b S]) (fun _=>True) ?_ ?_
 ·have S5:∀{E:Env},Vg.look E 0=some (.pointer (some ⟨p,0,none⟩))→Vg.look E 2=some (sendF b)→Vg.look E 6=some (.slice r.addr r.xs.length r.cap)→Vg.look E 7=some (.slice ga rows.length gc)→Vg.look E 8=some (.int .i64 (sinceOf c R.id).1) →
    Sub [(0,pV p),(2,sendF b),(6,.slice r.addr r.xs.length r.cap),(7,.slice ga rows.length gc),(8,.int .i64 (sinceOf c R.id).1)] E:=fun h0 h1 h2 h3 h4=>SC h0 (SC h1 (SC h2 (SC h3 (SC h4 (SN _)))))
  have yes:nwB R c=true→repCs (ent3 R c) y=repCs { ent2 R c with whole:=false } y:=fun h=>by
   rw[show ent3 R c={ ent2 R c with whole:=false } by unfold ent3;rw[h];rfl]
  have no:nwB R c=false→repCs (ent3 R c) y=repCs (ent2 R c) y:=fun h=>by
   rw[show ent3 R c=ent2 R c by unfold ent3;rw[h];rfl]
  refine xdf ?_
  by_cases h1:(sinceOf c R.id).2=true
  rotate_left
  ·have h1:(sinceOf c R.id).2=false:=by simpa using h1
   refine VG (VY 67 true rfl yay ?_)
   refine zpa ?_
   refine xjg ?_
   refine xdf ?_
   refine⟨(),trivial,S5 rfl rfl rfl rfl rfl,?_⟩
   dsimp only
   rw[yes (by rw[nwB,h1];rfl)]
   exact ER
  refine VG (VY 67 false rfl yay ?_)
  refine xdn ?_
  refine VC.condNE (i:=(sinceOf c R.id).1) (j:=R.since) rfl (fun h2=>?_) (fun h2=>CK ?_)
  ·refine xdf ?_
   refine xjg ?_
   refine xdf ?_
   refine⟨(),trivial,S5 rfl rfl rfl rfl rfl,?_⟩
   dsimp only
   rw[yes (by rw[nwB,h1,DT h2];rfl)]
   exact ER
  ·refine⟨(),trivial,S5 rfl rfl rfl rfl rfl,?_⟩
   dsimp only
   rw[no (by rw[nwB,h1,h2];simp)]
   exact ER
 rintro _ -
 refine xdf ?_
 refine VG (VO.st 0 (cs':=repCs { ent3 R c with since:=(sinceOf c R.id).1 } y) rfl rfl rfl rfl (by show 7<17;omega) rfl rfl ?_)
 refine xeg ?_
 refine xdf ?_
 refine VG (VO.st 0 (cs':=repCs { ent3 R c with since:=(sinceOf c R.id).1,linked:=false } y) rfl rfl rfl rfl (by show 15<17;omega) rfl rfl ?_)
 refine xdf ?_
 refine VG (VO.st 0 (cs':=repCs { ent3 R c with since:=(sinceOf c R.id).1,linked:=false,have_:=0 } y) rfl rfl rfl rfl (by show 16<17;omega) rfl rfl ?_)
 refine xdf ?_
 refine VG (VO.st 0 (cs':=repCs (ent4 R c) y) rfl rfl rfl rfl (by show 14<17;omega) rfl rfl ?_)
 refine xdf ?_
 refine VG (VQ 3 rfl (fun Fr w hF hs hS=>Win.renew_spec Fr w ok2.win) rfl (ψ:=fun v H=>v=.tuple #[]∧H=winH y.wp (ent4 R c).win) yy ?_)
 rintro _ _ ⟨rfl,rfl⟩
 refine xeg ?_
 show VC _ _ _ [pt p (repCs (ent4 R c) y) repT,slH memT 2 y.a c.ms.length y.c (flat memC c.ms),logH y.lp (ent4 R c).log,winH y.wp (ent4 R c).win,admH y.ap (ent4 R c).adm,rdsH y.rp (ent4 R c).rds,slH rdT 34 ga rows.length gc (flat rdC rows),r.h frT,outH b S] _
 have q0:=ok4.win.cap0
 refine CS ?_
 refine VC.meetS (σ:=Unit) (fun _=>[(0,pV p),(2,sendF b),(6,.slice r.addr r.xs.length r.cap),(7,.slice ga rows.length gc)])
  (fun _=>[pt p (repCs (ent5 R c) y) repT,slH memT 2 y.a c.ms.length y.c (flat memC c.ms),logH y.lp (ent5 R c).log,winH y.wp (ent5 R c).win,admH y.ap (ent5 R c).adm,rdsH y.rp (ent5 R c).rds,slH rdT 34 ga rows.length gc (flat rdC rows),r.h frT,outH b S]) (fun _=>True) ?_ ?_
 ·refine xdf ?_
  refine CC rfl (fun h1=>?_) (fun h1=>CK ?_)
  ·have e5:ent5 R c={ ent4 R c with start:=(ent4 R c).win.last }:=by rw[ent5,if_pos h1]
   refine xdf ?_
   refine VG (VV (fun Fr w hF hs hS=>Win.last_spec Fr w (hS.blk 3 rfl) q0) rfl ?_)
   refine xdf ?_
   refine VG (VO.st 0 (cs':=repCs { ent4 R c with start:=(ent4 R c).win.last } y) rfl rfl rfl rfl (by show 13<17;omega) rfl rfl ?_)
   refine xdf ?_
   refine⟨(),trivial,sbZ,?_⟩
   dsimp only
   rw[e5];exact ER
  ·have e5:ent5 R c=ent4 R c:=by rw[ent5,if_neg yas]
   refine⟨(),trivial,sbZ,?_⟩
   dsimp only
   rw[e5];exact ER
 rintro _ -
 have hch:(ent5 R c).ch=c:=by unfold ent5;split<;>rfl
 have hhp:∀S':List SndM,[pt p (repCs (ent5 R c) y) repT,slH memT 2 y.a c.ms.length y.c (flat memC c.ms),logH y.lp (ent5 R c).log,winH y.wp (ent5 R c).win,admH y.ap (ent5 R c).adm,rdsH y.rp (ent5 R c).rds,slH rdT 34 ga rows.length gc (flat rdC rows),r.h frT,outH b S']
  = [pt p (repCs (ent5 R c) y) repT,slH memT 2 y.a (ent5 R c).ch.ms.length y.c (flat memC (ent5 R c).ch.ms),logH y.lp (ent5 R c).log,winH y.wp (ent5 R c).win,admH y.ap (ent5 R c).adm,rdsH y.rp (ent5 R c).rds,slH rdT 34 ga rows.length gc (flat rdC rows),r.h frT,outH b S']:=fun S'=>by rw[hch]
 rw[hhp]
 generalize hR5:ent5 R c=R5 at *
 refine xdf ?_
 refine VC.loop (σ:=Nat) (fun i=>[(0,pV p),(2,sendF b),(7,.slice ga rows.length gc),(108,.slice r.addr r.xs.length r.cap),(109,.int .i64 r.xs.length),(110,.int .i64 i)])
  (fun i=>[pt p (repCs R5 y) repT,slH memT 2 y.a R5.ch.ms.length y.c (flat memC R5.ch.ms),logH y.lp R5.log,winH y.wp R5.win,admH y.ap R5.adm,rdsH y.rp R5.rds,slH rdT 34 ga rows.length gc (flat rdC rows),r.h frT,outH b (S++refs c.epoch ((R.adm.sch.goneM maxI).take i) 9)])
  (fun i=>i≤r.xs.length) (fun i=>r.xs.length-i) 0
  (Nat.zero_le _) sbZ (by rw[List.take_zero,show refs c.epoch [] 9=[] from rfl,List.append_nil];exact ER) ?_
 intro i hi
 have hxl:r.xs.length=(R.adm.sch.goneM maxI).length:=by rw[←hrx];simp
 refine xdf ?_
 refine CP rfl (fun h1=>CK ?_) (fun h1=>CX ?_)
 ·have hi2:i<r.xs.length:=by omega
  obtain⟨g,hg⟩:∃g,r.xs[i]?=some g:=⟨_,GE hi2⟩
  have hgg:(R.adm.sch.goneM maxI)[i]?=some g.1:=by rw[←hrx,List.getElem?_map,hg];rfl
  have hcg:=hgc g.1 (ME hgg)
  have hc6:=ok.wf.c1
  obtain⟨gb,go,r1,r2,hrd⟩:=rok.ld (t:=frT) hg rfl
  rw[r2]
  refine zpp ?_
  refine VG (VO.load rfl rfl ((hrd 7 rfl).1 _ rfl rfl) ?_)
  refine VG (VO.alloc rfl fun tb=>?_)
  refine VG (VT (vs:=fmc g) 0 rfl rfl rfl rfl (NR _) rfl rfl rfl ?_)
  refine xdf ?_
  refine VG (VL 0 (fmc g) rfl rfl rfl rfl ?_)
  refine VG (VQ 9 rfl (fun Fr w hF hs hS=>refuse_spec Fr w (hS.blk 1 rfl) yaw g.1 g.2 hcg.1.1 (by have:=hcg.1.2;omega) 9) rfl (ψ:=fun v H=>v=.tuple #[]∧H=outH b (S++refs c.epoch ((R.adm.sch.goneM maxI).take i) 9 ++ [(32+g.1.client,refuseF c.epoch g.1 9)])) yba ?_)
  rintro _ _ ⟨rfl,rfl⟩
  refine zor ?_
  refine⟨i+1,hi2,by dsimp only;omega,sbZ,?_⟩
  dsimp only
  rw[show refs c.epoch ((R.adm.sch.goneM maxI).take (i+1)) 9=refs c.epoch ((R.adm.sch.goneM maxI).take i) 9 ++ [(32+g.1.client,refuseF c.epoch g.1 9)] by rw[List.take_add_one,hgg];simp[refs],←List.append_assoc]
  exact(pkZ [1,1,1,1,1,1,1,1,1]).ent
 obtain rfl:i=r.xs.length:=by omega
 rw[hxl,List.take_length]
 have hrl1:(refs c.epoch (R.adm.sch.goneM maxI) 9).length≤64:=by rw[refs,List.length_map];exact hg64
 generalize hS1:S++refs c.epoch (R.adm.sch.goneM maxI) 9=S1
 have hS1l:S1.length≤800064:=by rw[←hS1,List.length_append];omega
 refine VC.opn 6 rfl (HOpn.rl rdT ga gc rows rdC_len) ?_
 rintro q ⟨qok,hqv,hqx⟩
 show VC _ _ _ [q.h rdT,pt p (repCs R5 y) repT,slH memT 2 y.a R5.ch.ms.length y.c (flat memC R5.ch.ms),logH y.lp R5.log,winH y.wp R5.win,admH y.ap R5.adm,rdsH y.rp R5.rds,r.h frT,outH b S1] _
 refine xdf ?_
 have hexp:∀i,i≤rows.length→((rows.take i).map fun y=>y.1.f).length=i:=fun i hi=>by simp;omega
 refine VC.loop (σ:=Nat) (fun i=>[(0,pV p),(2,sendF b),(119,.slice ga rows.length gc),(120,.int .i64 rows.length),(121,.int .i64 i)])
  (fun i=>[q.h rdT,pt p (repCs R5 y) repT,slH memT 2 y.a R5.ch.ms.length y.c (flat memC R5.ch.ms),logH y.lp R5.log,winH y.wp R5.win,admH y.ap R5.adm,rdsH y.rp R5.rds,outH b (S1++refs c.epoch ((rows.take i).map fun y=>y.1.f) 9)])
  (fun i=>i≤rows.length) (fun i=>rows.length-i) 0
  (Nat.zero_le _) sbZ (by
   rw[List.take_zero,show refs c.epoch (List.map (fun y=>y.1.f) ([]:List RdR)) 9=[] from rfl,List.append_nil]
   exact(pkZ [0,0,0,0,0,0,0,1]).ent) ?_
 intro i hi
 refine xdf ?_
 refine CP rfl (fun h1=>CK ?_) (fun h1=>CX ?_)
 ·have hi2:i<rows.length:=by omega
  obtain⟨g,hg⟩:∃g,rows[i]?=some g:=⟨_,GE hi2⟩
  have hgm:g.1∈R.rds.l:=by
   rw[←hrows]
   exact List.mem_map.2 ⟨g,ME hg,rfl⟩
  have hcg:=ok.rcl g.1 hgm
  obtain⟨gb,go,r1,r2,hrd⟩:=qok.ld (t:=rdT) (hqx▸hg) rfl
  obtain rfl:ga=some ⟨gb,go,none⟩:=by rw[RL.v,r2,hqx] at hqv;injection hqv with e1;exact e1.symm
  refine zpp ?_
  refine xiz ?_
  refine VG (VO.alloc rfl fun tb=>?_)
  refine xja ?_
  refine xdf ?_
  refine VG (VL 0 (fgC g.1.f g.2) rfl rfl rfl rfl ?_)
  refine VG (VQ 8 rfl (fun Fr w hF hs hS=>refuse_spec Fr w (hS.blk 2 rfl) (by rw[List.length_append,refs,List.length_map,hexp i yd];omega) g.1.f g.2 hcg.1 yd 9) rfl (ψ:=fun v H=>v=.tuple #[]∧H=outH b (S1++refs c.epoch ((rows.take i).map fun y=>y.1.f) 9 ++ [(32+g.1.f.client,refuseF c.epoch g.1.f 9)])) yba ?_)
  rintro _ _ ⟨rfl,rfl⟩
  refine zor ?_
  refine⟨i+1,hi2,by dsimp only;omega,sbZ,?_⟩
  dsimp only
  rw[show refs c.epoch ((rows.take (i+1)).map fun y=>y.1.f) 9=refs c.epoch ((rows.take i).map fun y=>y.1.f) 9 ++ [(32+g.1.f.client,refuseF c.epoch g.1.f 9)] by rw[List.take_add_one,hg];simp[refs],←List.append_assoc]
  exact(pkZ [1,1,1,1,1,1,1,1]).ent
 obtain rfl:i=rows.length:=by omega
 rw[List.take_length]
 have hes:S1++refs c.epoch (rows.map fun y=>y.1.f) 9=S++entG R c:=by
  rw[←hS1,entG,←hrows,List.map_map,List.append_assoc];rfl
 have hel:(S++entG R c).length≤800080:=by rw[←hes,List.length_append,refs,List.length_map,List.length_map];omega
 rw[hes]
 refine CN (L':=[repH p R5,outH b (S++entG R c)]) (Imp.rep (R:=R5) y (pkZ [1,1,1,1,1,1,1])).ent ?_
 generalize hS2:S++entG R c=S2 at *
 refine xdf ?_
 refine VG (VK (Lc:=[repH p R5,outH b S2]) (Lr:=[]) (fun Fr w hF hs hS=>finish_spec Fr w ok5 yd) rfl rfl ?_)
 rintro _ _ ⟨rfl,rfl⟩
 have fl:=finishM_len ok5
 have okf:=finishR_ok ok5
 refine xdf ?_
 refine VO.opn 0 rfl (HOpn.rep p R5.finishR) ?_
 rintro y2 -
 show VO _ _ _ _ _ (repO p R5.finishR y2 b (S2++R5.finishM)) _
 unfold repO
 refine xdf ?_
 refine VG (VQ 6 rfl (fun Fr w hF hs hS=>greet_spec Fr w (RepIn.pcs hS 0 rfl rfl rfl rfl rfl rfl) okf.ch okf.win yp) rfl (ψ:=fun v H=>v=.tuple #[]∧H=outH b (S2++R5.finishM++R5.finishR.greetM)) yy ?_)
 rintro _ _ ⟨rfl,rfl⟩
 have gl:R5.finishR.greetM.length≤1:=by unfold RepM.greetM;split<;>simp
 refine xdf ?_
 refine VG (VQ 6 rfl (fun Fr w hF hs hS=>tellBase_spec Fr w (RepIn.pcs hS 0 rfl rfl rfl rfl rfl rfl) okf.ch (by rw[List.length_append,List.length_append];omega)) rfl (ψ:=fun v H=>v=.tuple #[]∧H=outH b (S2++R5.finishM++R5.finishR.greetM++R5.finishR.baseM)) yy ?_)
 rintro _ _ ⟨rfl,rfl⟩
 have bl:R5.finishR.baseM.length≤1:=by unfold RepM.baseM;split<;>simp
 refine xdf ?_
 refine VG (VQ 6 rfl (fun Fr w hF hs hS=>tellMaster_spec Fr w (hS.blk 0 rfl) (by rw[List.length_append,List.length_append,List.length_append];omega)) rfl (ψ:=fun v H=>v=.tuple #[]∧H=outH b (S2++R5.finishM++R5.finishR.greetM++R5.finishR.baseM++R5.finishR.masterM)) yy ?_)
 rintro _ _ ⟨rfl,rfl⟩
 refine xdf ?_
 refine Ret.void rfl (repO_shut (R:=R5.finishR) (x:=y2)).ent ⟨rfl,?_⟩
 simp only[enterR,hR5,←hS2,List.append_assoc]
end
end Rep
namespace Rep
open Go Vg T Api Kv Ch Lg Rd Win Adm Sched Conf
attribute [local irreducible] VO VC VA
def firstMs(n:Nat):List MemM:=(List.range n).map fun(i:Nat)=>((i:Int),(1:Int))
theorem firstMs_len(n:Nat):(firstMs n).length=n:=by simp[firstMs]
theorem firstMs_succ(n:Nat):firstMs (n+1)=firstMs n ++ [((n:Int),(1:Int))]:=by simp[firstMs,List.range_succ]
def firstC(c:ConfM):ChM:=⟨1,firstMs c.chain.toNat,-1⟩
def chZ:ChM:=⟨0,[],0⟩
theorem conf_bounds{c:ConfM}(h:c=fitM c):(1≤c.nodes∧c.nodes≤6)∧(1≤c.chain∧c.chain≤c.nodes)∧(1≤c.window∧c.window≤16)∧(1≤c.reads∧c.reads≤16)∧(1≤c.clients∧c.clients≤6):=by
 have e1:c.nodes=near c.nodes 1 6:=congrArg ConfM.nodes h
 have e2:c.chain=near c.chain 1 (near c.nodes 1 6):=congrArg ConfM.chain h
 have e3:c.window=near c.window 1 16:=congrArg ConfM.window h
 have e4:c.reads=near c.reads 1 16:=congrArg ConfM.reads h
 have e5:c.clients=near c.clients 1 6:=congrArg ConfM.clients h
 have n1:=near_in (x:=c.nodes) (lo:=1) (hi:=6) yo
 have n2:=near_in (x:=c.chain) (lo:=1) (hi:=near c.nodes 1 6) n1.1
 have n3:=near_in (x:=c.window) (lo:=1) (hi:=16) yo
 have n4:=near_in (x:=c.reads) (lo:=1) (hi:=16) yo
 have n5:=near_in (x:=c.clients) (lo:=1) (hi:=6) yo
 omega
theorem first_spec(c:ConfM)(a:Option Addr)(cap:Nat)(hq:IntsIn Fr w a c.qs)(ha:AdOk a)(hcap:c.qs.length≤cap):Tri Tryz.prog 65 [.agg (c.cells a cap).toArray] Fr w []
  (fun v L=>if c=fitM c then ∃a' c',v=.tuple #[.agg ((firstC c).cells a' c').toArray,.int .i64 0]∧L=[slH memT 2 a' (firstC c).ms.length c' (flat memC (firstC c).ms)] else v=.tuple #[.agg (chZ.cells none 0).toArray,.int .i64 2]∧L=[]):=by
 refine TF 27 Tryz.func65 rfl ym tabOk rfl rfl ?_
 refine CS (CG (VG (VB (vs:=c.cells a cap) rfl fun x=>VG (VO.alloc rfl fun d=>?_))))
 refine xds ?_
 refine xef ?_
 refine VG (VV (fun Fr w hF hs _=>Conf.check_spec Fr w c a cap (ints_of hq hF hs) ha hcap) rfl ?_)
 refine xdf ?_
 refine VC.condNE rfl (fun h1=>?_) (fun h1=>CK ?_)
 ·have hc:¬c=fitM c:=fun e=>h1 (by rw[checkM,if_pos e])
  have hc2:checkM c=2:=by rw[checkM,if_neg hc]
  refine xdf ?_
  refine VG (VI (LB (pv:=[]) (chZ.cells none 0) rfl rfl rfl ym rfl) ?_)
  refine xdf ?_
  refine xjh ?_
  refine xdf ?_
  refine xgb ?_
  rw[if_neg hc,hc2];exact⟨rfl,rfl⟩
 have hc:c=fitM c:=by
  apply Decidable.byContradiction
  intro hc
  rw[checkM,if_neg hc] at h1
  cases h1
 have hb:=conf_bounds hc
 refine xdf ?_
 refine VG (VI (LB (pv:=[(0,.int .i64 1),(2,.int .i64 (-1))]) [.int .i64 1,.slice none 0 0,.int .i64 (-1)] rfl rfl rfl ym rfl) ?_)
 refine xdf ?_
 refine VG (VT (vs:=[.int .i64 1,.slice none 0 0,.int .i64 (-1)]) (cs':=[.int .i64 1,.slice none 0 0,.int .i64 (-1)]) 0 rfl rfl rfl rfl (NR _) rfl rfl rfl ?_)
 refine xds ?_
 refine VC.loop (σ:=Nat×Option Addr×Nat) (fun y=>[(2,pV d),(14,.int .i64 c.chain),(15,.int .i64 y.1)])
  (fun y=>[slH memT 2 y.2.1 y.1 y.2.2 (flat memC (firstMs y.1)),pt d [.int .i64 1,.slice y.2.1 y.1 y.2.2,.int .i64 (-1)] chT])
  (fun y=>(y.1:Int)≤c.chain) (fun y=>c.chain.toNat-y.1) (0,none,0)
  ybb sbZ (Imp.slNil (IP 0 rfl Imp.nil)).ent ?_
 rintro⟨i,a',c'⟩ hi
 dsimp only at hi ⊢
 refine xdf ?_
 refine CP rfl (fun h1=>CK ?_) (fun h1=>CX ?_)
 ·refine xds ?_
  refine VG (VI (LB (pv:=[(0,.int .i64 i),(1,.int .i64 1)]) (memC ((i:Int),1)) rfl rfl rfl ym rfl) ?_)
  refine VG (VO.buildSlice (n:=1) (pv:=[(0,.agg (memC ((i:Int),1)).toArray)]) (memC ((i:Int),1)) rfl rfl rfl rfl yo (fill_one rfl rfl rfl) fun nb=>?_)
  refine VG (VO.append (m:=1) (news:=memC ((i:Int),1)) 1 rfl rfl rfl rfl rfl rfl rfl (RdRow.pt 0 rfl rfl rfl) rfl (small_bytes (k:=101) yd yo) yd fun a2 c2 hc2=>?_)
  refine xdf ?_
  refine VG (VO.st 2 (cs':=[.int .i64 1,.slice a2 (i+1) c2,.int .i64 (-1)]) rfl rfl rfl rfl yad rfl rfl ?_)
  refine zor ?_
  refine⟨(i+1,a2,c2),by dsimp only;omega,by dsimp only;omega,sbZ,?_⟩
  dsimp only
  rw[firstMs_succ,flat_append,flat_cons,flat_nil,List.append_nil]
  exact(pkZ [0,1]).ent
 ·obtain rfl:i=c.chain.toNat:=by omega
  have e0:(firstC c).ms.length=c.chain.toNat:=firstMs_len _
  have e1:(firstC c).cells a' c'=[.int .i64 1,.slice a' c.chain.toNat c',.int .i64 (-1)]:=by rw[ChM.cells,e0];rfl
  refine xdf ?_
  refine VG (VL 1 [.int .i64 1,.slice a' c.chain.toNat c',.int .i64 (-1)] rfl rfl rfl rfl ?_)
  refine VG (VT (vs:=[.int .i64 1,.slice a' c.chain.toNat c',.int .i64 (-1)]) (cs':=[.int .i64 1,.slice a' c.chain.toNat c',.int .i64 (-1)]) 1 rfl rfl rfl rfl (NR _) rfl rfl rfl ?_)
  refine xdf ?_
  refine CR (Ret.cellTmp 2 3 rfl rfl rfl (RdL.many 1 rfl rfl) rfl (IP 0 rfl Imp.nil).ent ?_)
  rw[if_pos hc,e0];exact⟨a',c',by rw[e1];rfl,rfl⟩
def newR0(c:ConfM)(id:Int):RepM:={ id:=id,clients:=c.clients,cap:=c.window,most:=c.reads,ch:=chZ,since:=0,whole:=false,log:=[],win:=WinM.new c.window,adm:=newA c,rds:=RdsM.new c.reads,start:=-1,base:=-1,linked:=false,have_:=0 }
def newR(c:ConfM)(id:Int)(blank:Bool):RepM:=
 if blank then newR0 c id else if (sinceOf (firstC c) id).2 then { newR0 c id with ch:=firstC c,since:=(sinceOf (firstC c) id).1,whole:=true,start:=0 } else { newR0 c id with ch:=firstC c }
def newOkB(c:ConfM)(id:Int):Prop:=c=fitM c∧0≤id∧id<c.nodes
instance (c:ConfM) (id:Int):Decidable (newOkB c id):=by unfold newOkB;infer_instance
theorem newR0_ok{c:ConfM}(h:c=fitM c)(id:Int){C:ChM}(hC:ChS C)(s t:Int)(wh:Bool):({ newR0 c id with ch:=C,since:=s,whole:=wh,start:=t }:RepM).Ok:=by
 have hb:=conf_bounds h
 refine⟨hC,WinM.new_ok hb.2.2.1.1 hb.2.2.1.2,rfl,fun e he=>absurd he List.not_mem_nil,fun e he=>absurd he List.not_mem_nil,hb.2.2.2.1.1,hb.2.2.2.1.2,?_,Int.le_refl _,(by decide:(0:Int)≤100000000),fun e he=>absurd he List.not_mem_nil,newA_calls c,newA_wf h⟩
 show(0:Int)≤c.reads;omega
theorem firstC_s{c:ConfM}(h:c=fitM c):ChS (firstC c):=⟨by have hb:=conf_bounds h;show(firstMs _).length≤1000;rw[firstMs_len];omega⟩
theorem newR_ok{c:ConfM}(h:c=fitM c)(id:Int)(blank:Bool):(newR c id blank).Ok:=by
 unfold newR
 split
 ·exact newR0_ok h id ⟨by decide⟩ 0 (-1) false
 split
 ·exact newR0_ok h id (firstC_s h) _ 0 true
 ·exact newR0_ok h id (firstC_s h) 0 (-1) false
def repV(R:RepM)(a:Option Addr)(c:Nat)(l w d r:Value):List Value:=[.int .i64 R.id,.int .i64 R.clients,.int .i64 R.cap,.int .i64 R.most,.int .i64 R.ch.epoch,.slice a R.ch.ms.length c,.int .i64 R.ch.drain,.int .i64 R.since,.bool R.whole,
 l,w,d,r,.int .i64 R.start,.int .i64 R.base,.bool R.linked,.int .i64 R.have_]
abbrev ptV(b:Nat):Value:=.pointer (some ⟨b,0,none⟩)
theorem new_spec(c:ConfM)(a:Option Addr)(cap:Nat)(hq:IntsIn Fr w a c.qs)(ha:AdOk a)(hcap:c.qs.length≤cap)(id:Int)(blank:Bool):Tri Tryz.prog 38 [.agg (c.cells a cap).toArray,.int .i64 id,.bool blank] Fr w []
  (fun v L=>if newOkB c id then ∃p,v=.tuple #[.pointer (some ⟨p,0,none⟩),.int .i64 0]∧L=[repH p (newR c id blank)] else v=.tuple #[.pointer none,.int .i64 2]∧L=[]):=by
 refine TF 93 Tryz.func38 rfl ym tabOk rfl rfl ?_
 refine CS (CG (VG (VB (vs:=c.cells a cap) rfl fun x=>?_)))
 refine zpq ?_
 refine VG (VK (Lc:=[]) (fun Fr w hF hs _=>first_spec Fr w c a cap (ints_of hq hF hs) ha hcap) rfl rfl ?_)
 intro v L hv
 by_cases hc:c=fitM c
 rotate_left
 ·rw[if_neg hc] at hv
  obtain⟨rfl,rfl⟩:=hv
  have hno:¬newOkB c id:=fun h=>hc h.1
  refine xdf ?_
  refine VG (VO.alloc rfl fun d=>?_)
  refine xjh ?_
  refine xdf ?_
  refine VG (VY 20 true rfl rfl ?_)
  refine xdn ?_
  refine VG (VY 24 true rfl rfl ?_)
  refine zpa ?_
  refine xji ?_
  rw[if_neg hno];exact⟨rfl,rfl⟩
 rw[if_pos hc] at hv
 obtain⟨a1,c1,rfl,rfl⟩:=hv
 have hb:=conf_bounds hc
 have hfl:(firstC c).ms.length≤6:=by show(firstMs _).length≤6;rw[firstMs_len];omega
 refine xdf ?_
 refine VG (VO.alloc rfl fun d=>?_)
 refine VG (VT (vs:=(firstC c).cells a1 c1) (cs':=(firstC c).cells a1 c1) 0 rfl rfl rfl rfl (NR _) rfl rfl rfl ?_)
 refine xdf ?_
 refine VG (VY 20 false rfl rfl ?_)
 refine xdn ?_
 by_cases h0:id<0
 ·have hno:¬newOkB c id:=fun h=>by have:=h.2.1;omega
  refine VG (VY 24 true rfl (DT h0) ?_)
  refine zpa ?_
  refine xji ?_
  rw[if_neg hno];exact⟨rfl,rfl⟩
 refine VG (VY 24 false rfl (DF h0) ?_)
 refine xdv ?_
 refine CP rfl (fun h1=>?_) (fun h1=>CK ?_)
 ·have hno:¬newOkB c id:=fun h=>by have:=h.2.2;omega
  refine xdf ?_
  refine xji ?_
  rw[if_neg hno];exact⟨rfl,rfl⟩
 have hyes:newOkB c id:=⟨hc,by omega,by omega⟩
 show VC _ _ _ [pt d ((firstC c).cells a1 c1) chT,slH memT 2 a1 (firstC c).ms.length c1 (flat memC (firstC c).ms),pt x (c.cells a cap) _] _
 refine xdt ?_
 refine VG (VI (LB (pv:=[(0,.int .i64 id),(1,.int .i64 c.clients),(2,.int .i64 c.window),(3,.int .i64 c.reads),(11,.int .i64 (-1)),(12,.int .i64 (-1))]) (repV (newR0 c id) none 0 (.pointer none) (.pointer none) (.pointer none) (.pointer none)) rfl rfl rfl ym rfl) ?_)
 refine VG (VB (vs:=repV (newR0 c id) none 0 (.pointer none) (.pointer none) (.pointer none) (.pointer none)) rfl fun p=>?_)
 refine xdf ?_
 refine VG (VK (Lc:=[]) (fun Fr w _ _ _=>Lg.new_spec Fr w) rfl rfl ?_)
 rintro _ _ ⟨lp,rfl,rfl⟩
 refine xdf ?_
 refine VG (VO.st 1 (cs':=repV (newR0 c id) none 0 (ptV lp) (.pointer none) (.pointer none) (.pointer none)) rfl rfl rfl rfl (by show 9<17;omega) rfl rfl ?_)
 refine xfh ?_
 refine VG (VK (Lc:=[]) (fun Fr w _ _ _=>Win.new_spec Fr w hb.2.2.1.1 hb.2.2.1.2) rfl rfl ?_)
 rintro _ _ ⟨wp,rfl,rfl⟩
 refine xdf ?_
 refine VG (VO.st 2 (cs':=repV (newR0 c id) none 0 (ptV lp) (ptV wp) (.pointer none) (.pointer none)) rfl rfl rfl rfl (by show 10<17;omega) rfl rfl ?_)
 refine xdf ?_
 refine VG (VL 5 (c.cells a cap) rfl rfl rfl rfl ?_)
 refine VG (VK (Lc:=[]) (fun Fr w hF hs _=>Adm.new_spec Fr w c a cap (ints_of hq hF hs) ha hcap) rfl rfl ?_)
 intro v L hv
 rw[if_pos hc] at hv
 obtain⟨ap,rfl,rfl⟩:=hv
 refine xdf ?_
 refine VG (VO.st 3 (cs':=repV (newR0 c id) none 0 (ptV lp) (ptV wp) (ptV ap) (.pointer none)) rfl rfl rfl rfl (by show 11<17;omega) rfl rfl ?_)
 refine xio ?_
 refine VG (VK (Lc:=[]) (fun Fr w _ _ _=>Rd.new_spec Fr w hb.2.2.2.1.1 hb.2.2.2.1.2) rfl rfl ?_)
 rintro _ _ ⟨rp,rfl,rfl⟩
 refine xdf ?_
 refine VG (VO.st 4 (cs':=repCs (newR0 c id) ⟨none,0,lp,wp,ap,rp⟩) rfl rfl rfl rfl (by show 12<17;omega) rfl rfl ?_)
 refine xdf ?_
 refine CN (L':=[pt p (repCs (newR0 c id) ⟨none,0,lp,wp,ap,rp⟩) repT,logH lp [],winH wp (WinM.new c.window),admH ap (newA c),rdsH rp (RdsM.new c.reads),pt d ((firstC c).cells a1 c1) chT,slH memT 2 a1 (firstC c).ms.length c1 (flat memC (firstC c).ms)]) (pkZ [4,3,2,1,0,0,0]).ent ?_
 refine CC rfl (fun hbl=>?_) (fun hbl=>CK ?_)
 ·refine xdf ?_
  refine CR (Ret.tmp2 6 7 rfl rfl rfl (L':=[repH p (newR c id blank)]) ?_ ybc)
  rw[show newR c id blank=newR0 c id by rw[newR,if_pos hbl]]
  exact(Imp.rep (R:=newR0 c id) ⟨none,0,lp,wp,ap,rp⟩ (IP 0 rfl (Imp.slNil (pkZ [0,0,0,0])))).ent
 refine xdf ?_
 refine VG (VL 5 ((firstC c).cells a1 c1) rfl rfl rfl rfl ?_)
 refine xdf ?_
 refine VG (VT (vs:=(firstC c).cells a1 c1) (cs':=repCs { newR0 c id with ch:=firstC c } ⟨a1,c1,lp,wp,ap,rp⟩) 0 rfl rfl rfl rfl (by show 4+3≤17;omega) rfl rfl rfl ?_)
 refine xdf ?_
 refine VG (VL 5 ((firstC c).cells a1 c1) rfl rfl rfl rfl ?_)
 refine xdf ?_
 refine VG (VV (fun Fr w hF hs hS=>Ch.since_spec Fr w (RwIn.slH memC_len (hS.at_ 6 rfl)) yd id) rfl ?_)
 refine xdf ?_
 refine VC.meetS (σ:=Unit) (fun _=>[(10,ptV p)]) (fun _=>[repH p (newR c id blank)]) (fun _=>True) ?_ ?_
 ·refine CC rfl (fun hs=>?_) (fun hs=>CK ?_)
  ·refine xdf ?_
   refine VG (VO.st 0 (cs':=repCs { newR0 c id with ch:=firstC c,since:=(sinceOf (firstC c) id).1 } ⟨a1,c1,lp,wp,ap,rp⟩) rfl rfl rfl rfl (by show 7<17;omega) rfl rfl ?_)
   refine xdf ?_
   refine VG (VO.st 0 (cs':=repCs { newR0 c id with ch:=firstC c,since:=(sinceOf (firstC c) id).1,whole:=true } ⟨a1,c1,lp,wp,ap,rp⟩) rfl rfl rfl rfl yaz rfl rfl ?_)
   refine xdf ?_
   refine VG (VO.st 0 (cs':=repCs { newR0 c id with ch:=firstC c,since:=(sinceOf (firstC c) id).1,whole:=true,start:=0 } ⟨a1,c1,lp,wp,ap,rp⟩) rfl rfl rfl rfl (by show 13<17;omega) rfl rfl ?_)
   refine xdf ?_
   refine⟨(),trivial,sbZ,?_⟩
   dsimp only
   rw[show newR c id blank={ newR0 c id with ch:=firstC c,since:=(sinceOf (firstC c) id).1,whole:=true,start:=0 } by rw[newR,if_neg (by rw[hbl];simp),if_pos hs]]
   exact(Imp.rep (R:={ newR0 c id with ch:=firstC c,since:=(sinceOf (firstC c) id).1,whole:=true,start:=0 }) ⟨a1,c1,lp,wp,ap,rp⟩ (pkZ [0,5,0,0,0,0])).ent
  ·refine⟨(),trivial,sbZ,?_⟩
   dsimp only
   rw[show newR c id blank={ newR0 c id with ch:=firstC c } by rw[newR,if_neg (by rw[hbl];simp),if_neg (by rw[hs];simp)]]
   exact(Imp.rep (R:={ newR0 c id with ch:=firstC c }) ⟨a1,c1,lp,wp,ap,rp⟩ (pkZ [0,5,0,0,0,0])).ent
 rintro _ -
 refine xdf ?_
 exact CR (Ret.tmp2 6 7 rfl rfl rfl ER ybc)
end Rep
namespace Rep
open Go Vg T Api Kv Ch Lg Rd Win Adm Sched Conf
attribute [local irreducible] VO VC VA
structure RepM.Fit(R:RepM):Prop where
 ok:R.Ok
 most:R.most=R.rds.cap
 cap0:1≤R.cap
 cap1:R.cap≤16
 cl:R.clients≤6
theorem newR_fit{c:ConfM}(h:c=fitM c)(id:Int)(blank:Bool):(newR c id blank).Fit:=by
 have hb:=conf_bounds h
 have ho:=newR_ok h id blank
 unfold newR at ho ⊢
 split
 ·rename_i h1;rw[if_pos h1] at ho;exact⟨ho,rfl,hb.2.2.1.1,hb.2.2.1.2,hb.2.2.2.2.2⟩
 ·rename_i h1;rw[if_neg h1] at ho
  split
  ·rename_i h2;rw[if_pos h2] at ho;exact⟨ho,rfl,hb.2.2.1.1,hb.2.2.1.2,hb.2.2.2.2.2⟩
  ·rename_i h2;rw[if_neg h2] at ho;exact⟨ho,rfl,hb.2.2.1.1,hb.2.2.1.2,hb.2.2.2.2.2⟩
def readsB(o:OpM):Bool:=decide (o.kind=1)&&decide (opCheck o=0)
def frCh(f:FrameM)(ms:List MemM):ChM:=⟨f.cepoch,ms,f.drain⟩
def sureR(R:RepM)(i:Int):RepM:={ R with rds:={ R.rds with l:=R.rds.l.filter (surely i) } }
def sureS(R:RepM)(i:Int):List SndM:=(R.rds.l.filter fun y=>!surely i y).map fun y=>(32+y.f.client,replyF y.f.client y.f.seq y.f.try_ y.r)
def baseR(R:RepM)(i:Int):RepM:={ R with base:=max i (-1) }
def takeR(R:RepM)(from_:Int)(f:FrameM)(ms:List MemM)(now:Int):RepM×List SndM:=
 if f.kind=1 then (if f.client<0 then (R,[]) else if R.clients≤f.client then (R,[]) else if readsB f.op=true then readR R f now else updateR R f now)
 else if f.kind=8 then (if (from_=16∧chE (frCh f ms)=0)∧R.ch.epoch<f.cepoch then enterR R (frCh f ms) else (R,[]))
 else if f.kind=4 then (if R.knownB f=true∧isNodeB from_ R.prevM=true then forwardR R f.entry else (R,[]))
 else if f.kind=5 then (if R.knownB f=true∧isNodeB from_ R.nextM=true then ackR R f else (R,[]))
 else if f.kind=6 then (if R.knownB f=true∧isNodeB from_ R.prevM=true then ((baseR R f.index).becomeR,(baseR R f.index).becomeM) else (R,[]))
 else if f.kind=10 then (if R.knownB f=true∧from_=16 then (sureR R f.index,sureS R f.index) else (R,[]))
 else (R,[])
theorem judge_adm(R:RepM)(f:FrameM)(now:Int):(judgeM R f now).2.2=R.adm∨(judgeM R f now).2.2=(R.adm.offerM f now).2:=by
 unfold judgeM
 repeat' split
 all_goals first | exact .inl rfl | exact .inr rfl
theorem updateR_ok{R:RepM}(h:R.Ok)(f:FrameM)(now:Int):(updateR R f now).1.Ok:=by
 have hj:(judgeM R f now).2.2.Calls∧(judgeM R f now).2.2.Wf:=by
  rcases judge_adm R f now with e | e
  ·rw[e];exact⟨h.calls,h.wf⟩
  ·rw[e];exact⟨offer_calls h.calls f now,offer_wf h.wf f now⟩
 unfold updateR
 split
 ·exact adm_ok h hj.1 hj.2
 split
 ·exact adm_ok h hj.1 hj.2
 split
 ·exact adm_ok h (barM_calls hj.1 _ _ _) (hj.2.barM _ _ _)
 ·exact adm_ok h hj.1 hj.2
theorem readR_ok{R:RepM}(h:R.Ok)(hr:R.rds.last<100000000)(f:FrameM)(now:Int)(h0:0≤f.client)(h1:f.client≤1000):(readR R f now).1.Ok:=by
 unfold readR
 split
 ·exact h
 ·have e:({ R with rds:=R.rds.put f (kvLook (logRun R.log).1 f.op.key R.log.length) }:RepM).Ok:=by
   have a0:=h.rc0;have a1:=h.rn0;have a2:=h.rl
   unfold RdsM.put
   split
   ·rename_i hl
    exact⟨h.ch,h.win,h.last,h.logc,h.logi,h.rc0,h.rc1,by show((R.rds.l ++ [_]).length:Int)≤R.rds.cap;rw[List.length_append];simp;omega,by show 0≤R.rds.last+1;omega,by show R.rds.last+1≤_;omega,fun y hy=>by
     rcases List.mem_append.1 hy with h2 | h2
     ·exact h.rcl y h2
     ·rw[List.mem_singleton.1 h2];exact⟨h0,h1⟩,h.calls,h.wf⟩
   ·exact h
  exact e
theorem sureR_ok{R:RepM}(h:R.Ok)(i:Int):(sureR R i).Ok:=⟨h.ch,h.win,h.last,h.logc,h.logi,h.rc0,h.rc1,by
 have:=h.rl;have h2:=List.length_filter_le (surely i) R.rds.l
 show((R.rds.l.filter (surely i)).length:Int)≤R.rds.cap;omega,h.rn0,h.rn1,fun y hy=>h.rcl y (List.mem_filter.1 hy).1,h.calls,h.wf⟩
theorem baseR_ok{R:RepM}(h:R.Ok)(i:Int):(baseR R i).Ok:=⟨h.ch,h.win,h.last,h.logc,h.logi,h.rc0,h.rc1,h.rl,h.rn0,h.rn1,h.rcl,h.calls,h.wf⟩
theorem forwardR_ok'{R:RepM}(h:R.Ok)(e:EntryM):(forwardR R e).1.Ok:=by
 unfold forwardR
 split
 ·rename_i h1;exact becomeR_ok (finishR_ok (pushE_ok h h1.2 (fwd_room h1.1)))
 ·exact h
theorem chE_len{c:ChM}(h:chE c=0):c.ms.length≤6:=by
 have:chOk c=true:=by
  unfold chE at h
  by_cases hc:chOk c=true
  ·exact hc
  ·rw[if_neg hc] at h;cases h
 simp only[chOk,headOk,Bool.and_eq_true,decide_eq_true_eq] at this
 omega
theorem takeR_ok{R:RepM}(h:R.Fit)(hr:R.rds.last<100000000)(from_:Int)(f:FrameM)(ms:List MemM)(now:Int):(takeR R from_ f ms now).1.Ok:=by
 have hcl:=h.cl
 unfold takeR
 split
 ·split
  ·exact h.ok
  split
  ·exact h.ok
  rename_i h1 h2
  split
  ·exact readR_ok h.ok hr f now yd yd
  ·exact updateR_ok h.ok f now
 split
 ·split
  ·rename_i h1;exact enterR_ok h.ok ⟨by have:=chE_len h1.1.2;omega⟩ h.cap0 h.cap1
  ·exact h.ok
 split
 ·split
  ·exact forwardR_ok' h.ok _
  ·exact h.ok
 split
 ·split
  ·exact ackR_ok h.ok f
  ·exact h.ok
 split
 ·split
  ·exact becomeR_ok (baseR_ok h.ok _)
  ·exact h.ok
 split
 ·split
  ·exact sureR_ok h.ok _
  ·exact h.ok
 ·exact h.ok
structure Stays(R Q:RepM):Prop where
 id:Q.id=R.id
 clients:Q.clients=R.clients
 cap:Q.cap=R.cap
 most:Q.most=R.most
 rcap:Q.rds.cap=R.rds.cap
theorem Stays.refl(R:RepM):Stays R R:=⟨rfl,rfl,rfl,rfl,rfl⟩
theorem Stays.trans{R Q P:RepM}(h:Stays R Q)(k:Stays Q P):Stays R P:=⟨k.id.trans h.id,k.clients.trans h.clients,k.cap.trans h.cap,k.most.trans h.most,k.rcap.trans h.rcap⟩
theorem RepM.Fit.stays{R Q:RepM}(h:R.Fit)(k:Stays R Q)(ok:Q.Ok):Q.Fit:=⟨ok,by rw[k.most,k.rcap];exact h.most,by rw[k.cap];exact h.cap0,by rw[k.cap];exact h.cap1,by rw[k.clients];exact h.cl⟩
theorem finish_stays(R:RepM):Stays R R.finishR:=by unfold RepM.finishR;split<;>exact⟨rfl,rfl,rfl,rfl,rfl⟩
theorem become_stays(R:RepM):Stays R R.becomeR:=by unfold RepM.becomeR;split<;>exact⟨rfl,rfl,rfl,rfl,rfl⟩
theorem enter_stays(R:RepM)(c:ChM):Stays R (enterR R c).1:=by
 refine Stays.trans (Q:=ent5 R c) ?_ (finish_stays _)
 unfold ent5;split<;>exact⟨rfl,rfl,rfl,rfl,rfl⟩
theorem put_cap(r:RdsM)(f:FrameM)(x:ResM):(r.put f x).cap=r.cap:=by unfold RdsM.put;split<;>rfl
theorem take_stays(R:RepM)(from_:Int)(f:FrameM)(ms:List MemM)(now:Int):Stays R (takeR R from_ f ms now).1:=by
 have r:=Stays.refl R
 unfold takeR
 split
 ·split
  ·exact r
  split
  ·exact r
  split
  ·unfold readR;split
   ·exact r
   ·exact⟨rfl,rfl,rfl,rfl,put_cap _ _ _⟩
  ·unfold updateR;repeat' split
   all_goals exact⟨rfl,rfl,rfl,rfl,rfl⟩
 split
 ·split
  ·exact enter_stays _ _
  ·exact r
 split
 ·split
  ·unfold forwardR;split
   ·exact Stays.trans (Q:=(pushE R f.entry).finishR) (Stays.trans (Q:=pushE R f.entry) ⟨rfl,rfl,rfl,rfl,rfl⟩ (finish_stays _)) (become_stays _)
   ·exact r
  ·exact r
 split
 ·split
  ·unfold ackR ack2 ack1;dsimp only;split<;>exact⟨rfl,rfl,rfl,rfl,rfl⟩
  ·exact r
 split
 ·split
  ·exact Stays.trans (Q:=baseR R f.index) ⟨rfl,rfl,rfl,rfl,rfl⟩ (become_stays _)
  ·exact r
 split
 ·split
  ·exact xjj
  ·exact r
 ·exact r
theorem pass_stays(R:RepM):Stays R (passR R).1:=⟨rfl,rfl,rfl,rfl,rfl⟩
theorem serve_stays(R:RepM)(now:Int):Stays R (serveR R now).1:=by
 unfold serveR
 split
 ·exact xjj
 split
 ·exact xjj
 ·exact Stays.trans (Q:=pushE (nextA R now) (nextE R now)) ⟨rfl,rfl,rfl,rfl,rfl⟩ (finish_stays _)
theorem loop_stays(now:Int):∀(k:Nat) (R:RepM),Stays R (serveLoop now k R).1
 | 0,R=>Stays.refl R
 | k+1,R=>by
  rw[serveLoop]
  split
  ·split
   ·exact(serve_stays R now).trans (loop_stays now k _)
   ·exact serve_stays R now
  ·exact Stays.refl R
theorem step_stays(R:RepM)(now:Int):Stays R (stepR R now).1:=by
 have h2:Stays R (step2 R now).1:=by
  unfold step2;split
  ·exact Stays.trans (Q:=expR R now) ⟨rfl,rfl,rfl,rfl,rfl⟩ (loop_stays now 65 _)
  ·exact xjj
 show Stays R (step3 R now).1
 unfold step3;split
 ·exact h2.trans (pass_stays _)
 ·exact h2
theorem takeR_fit{R:RepM}(h:R.Fit)(hr:R.rds.last<100000000)(from_:Int)(f:FrameM)(ms:List MemM)(now:Int):(takeR R from_ f ms now).1.Fit:=h.stays (take_stays R from_ f ms now) (takeR_ok h hr from_ f ms now)
theorem stepR_fit{R:RepM}(h:R.Fit)(now:Int):(stepR R now).1.Fit:=h.stays (step_stays R now) (stepR_ok h.ok now)
end Rep
namespace Rep
open Go Vg T Api Kv Ch Lg Rd Win Adm Sched Conf
attribute [local irreducible] VO VC VA
section
variable {p:Nat} {R:RepM}
theorem take_spec(fit:R.Fit)(hlast:R.rds.last<100000000)(from_:Int)(f:FrameM){ma:Option Addr}{mc:Nat}{ms:List MemM}(hm:RwIn memC 2 Fr w ma ms)(hml:ms.length≤1000000)(now:Int)
  (hi1:-9223372036854775808≤f.entry.index) (hi2:f.entry.index≤9223372036854775807):Tri Tryz.prog 133 [.pointer (some ⟨p,0,none⟩),.int .i64 from_,.agg (fgC f (ma,ms.length,mc)).toArray,.int .i64 now] Fr w [repH p R]
  (fun v L=>sent (takeR R from_ f ms now).2 v L [repH p (takeR R from_ f ms now).1]):=by
 have ok:=fit.ok
 have hcl6:=fit.cl
 have hrl:R.rds.l.length≤16:=by have:=ok.rl;have:=ok.rc1;omega
 refine TF 160 Tryz.func133 rfl ym tabOk rfl rfl ?_
 refine CS (CG (VG (VB (vs:=fgC f (ma,ms.length,mc)) rfl fun fb=>?_)))
 refine xdf ?_
 refine VO.opn 1 rfl (HOpn.rep p R) ?_
 rintro x -
 show VO _ _ _ _ _ [pt p (repCs R x) repT,slH memT 2 x.a R.ch.ms.length x.c (flat memC R.ch.ms),logH x.lp R.log,winH x.wp R.win,admH x.ap R.adm,rdsH x.rp R.rds,pt fb (fgC f (ma,ms.length,mc)) frT] _
 refine xix ?_
 refine zpb ?_
 refine VG (VO.alloc rfl fun ob=>?_)
 refine xdf ?_
 refine xiy ?_
 refine xeg ?_
 refine CN (L':=[pt p (repCs R x) repT,slH memT 2 x.a R.ch.ms.length x.c (flat memC R.ch.ms),logH x.lp R.log,winH x.wp R.win,admH x.ap R.adm,rdsH x.rp R.rds,outH ob [],pt fb (fgC f (ma,ms.length,mc)) frT]) (IP 1 rfl (IP 1 rfl (IP 1 rfl (IP 1 rfl (IP 1 rfl (IP 1 rfl (Imp.out (none,0) (IP 0 rfl (Imp.slNil (IP 0 rfl Imp.nil)))))))))).ent ?_
 refine CS ?_
 refine VC.meetS (σ:=Unit) (fun _=>[(9,pV ob)]) (fun _=>[repH p (takeR R from_ f ms now).1,outH ob (takeR R from_ f ms now).2]) (fun _=>True) ?_ ?_
 rotate_left
 ·rintro _ -
  refine VC.opn 1 rfl (HOpn.out ob _) ?_
  rintro⟨a,c⟩ -
  show VC _ _ _ [pt ob [.slice a (takeR R from_ f ms now).2.length c] outT,slH sndT 30 a (takeR R from_ f ms now).2.length c (flat sndC (takeR R from_ f ms now).2),repH p (takeR R from_ f ms now).1] _
  refine xdf ?_
  exact CR (Ret.tmp 8 rfl rfl (IP 2 rfl (IP 1 rfl Imp.nil)).ent ⟨a,c,rfl,rfl⟩)
 have shut:∀{X:Cx},Ent X [pt p (repCs R x) repT,slH memT 2 x.a R.ch.ms.length x.c (flat memC R.ch.ms),logH x.lp R.log,winH x.wp R.win,admH x.ap R.adm,rdsH x.rp R.rds,outH ob [],pt fb (fgC f (ma,ms.length,mc)) frT] [repH p R,outH ob []]:=fun {X}=>
  (Imp.rep x (pkZ [0,0,0,0,0,0,0])).ent
 have none_:takeR R from_ f ms now=(R,[])→∀{X:Cx},Ent X [pt p (repCs R x) repT,slH memT 2 x.a R.ch.ms.length x.c (flat memC R.ch.ms),logH x.lp R.log,winH x.wp R.win,admH x.ap R.adm,rdsH x.rp R.rds,outH ob [],pt fb (fgC f (ma,ms.length,mc)) frT] [repH p (takeR R from_ f ms now).1,outH ob (takeR R from_ f ms now).2]:=fun h {X}=>by
  rw[h];exact shut
 refine xik ?_
 refine CE (i:=f.kind) (j:=1) rfl (fun k1=>?_) (fun k1=>?_)
 ·have hT:takeR R from_ f ms now=(if f.client<0 then (R,[]) else if R.clients≤f.client then (R,[]) else if readsB f.op=true then readR R f now else updateR R f now):=by rw[takeR,if_pos k1]
  refine CS ?_
  refine CS ?_
  refine CD (ts 0 12 .nil) ym yr ?_
  refine xig ?_
  by_cases h1:f.client<0
  ·refine AG (AY 24 true rfl (DT h1) ?_)
   refine xjk ?_
   refine VC.condT rfl (CX ?_)
   exact⟨(),trivial,sbZ,none_ (by rw[hT,if_pos h1])⟩
  refine AG (AY 24 false rfl (DF h1) ?_)
  refine xjk ?_
  refine CP (p:=R.clients≤f.client) rfl (fun h2=>CX ?_) (fun h2=>CK ?_)
  ·exact⟨(),trivial,sbZ,none_ (by rw[hT,if_neg h1,if_pos h2])⟩
  rw[if_neg h1,if_neg h2] at hT
  refine xdf ?_
  refine VG (VL 7 f.op.cells rfl rfl rfl rfl ?_)
  refine VG (VV (fun Fr w hF hs hS=>Kv.reads_spec Fr w f.op) rfl ?_)
  refine xdf ?_
  refine CC rfl (fun h3=>?_) (fun h3=>?_)
  ·have h3:readsB f.op=true:=h3
   rw[if_pos h3] at hT
   refine zqa ?_
   refine xjm ?_
   refine VG (VK (Lc:=[repH p R,outH ob []]) (Lr:=[]) (fun Fr w hF hs hS=>read_spec Fr w ok fit.most ybd f (hm.of hF hs) hml now yd yd) rfl rfl ?_)
   rintro _ _ ⟨rfl,rfl⟩
   refine xdf ?_
   refine⟨(),trivial,sbZ,?_⟩
   rw[hT];exact ER
  ·have h3:¬readsB f.op=true:=fun h=>by rw[show readsB f.op=false from h3] at h;cases h
   rw[if_neg h3] at hT
   refine zqa ?_
   refine xjm ?_
   refine VG (VK (Lc:=[repH p R,outH ob []]) (Lr:=[]) (fun Fr w hF hs hS=>update_spec Fr w ok ybd f (ma,ms.length,mc) ⟨ms,rfl,hml,RwIn.of hm hF hs⟩ now yd yd) rfl rfl ?_)
   rintro _ _ ⟨rfl,rfl⟩
   refine xdf ?_
   refine⟨(),trivial,sbZ,?_⟩
   rw[hT];exact ER
 refine CS ?_
 refine xdf ?_
 refine CE (i:=f.kind) (j:=8) rfl (fun k2=>?_) (fun k2=>?_)
 ·have hT:takeR R from_ f ms now=(if (from_=16∧chE (frCh f ms)=0)∧R.ch.epoch<f.cepoch then enterR R (frCh f ms) else (R,[])):=by rw[takeR,if_neg k1,if_pos k2]
  refine CS ?_
  refine CD (ts 0 5 (.only 5 (ts 6 13 .nil))) ym yr ?_
  refine xig ?_
  by_cases h1:from_=16
  rotate_left
  ·rw[if_neg (fun h=>h1 h.1.1)] at hT
   refine AG (AY 50 false rfl yg ?_)
   refine xjk ?_
   refine xhj ?_
   refine xjk ?_
   refine AG (AY 56 false rfl rfl ?_)
   refine xjk ?_
   refine xdy ?_
   exact xjn
  refine AG (AY 50 true rfl yg ?_)
  refine xjk ?_
  refine AG (VA.ldA 7 ((frCh f ms).cells ma mc) rfl rfl rfl rfl rfl ?_)
  refine AG (AR (fun Fr w hF hs hS=>Ch.check_spec Fr w (c:=frCh f ms) (hm.of hF hs) ybe) rfl rfl yu ?_)
  refine xjk ?_
  by_cases h2:chE (frCh f ms)=0
  rotate_left
  ·rw[if_neg (fun h=>h2 h.1.2)] at hT
   refine AG (AY 56 false rfl yj ?_)
   refine xjk ?_
   refine xdy ?_
   exact xjn
  refine AG (AY 56 true rfl yj ?_)
  refine xjk ?_
  refine CP (p:=R.ch.epoch<f.cepoch) rfl (fun h3=>?_) (fun h3=>CK ?_)
  ·rw[if_pos ⟨⟨h1,h2⟩,h3⟩] at hT
   have hcs:ChS (frCh f ms):=⟨by have:=chE_len h2;omega⟩
   refine xdf ?_
   refine VG (VL 7 ((frCh f ms).cells ma mc) rfl rfl rfl rfl ?_)
   refine xjm ?_
   refine xdf ?_
   refine VG (VK (Lc:=[repH p R,outH ob []]) (Lr:=[]) (fun Fr w hF hs hS=>enter_spec Fr w ok fit.cap0 fit.cap1 ybf (c:=frCh f ms) (hm.of hF hs) hcs) rfl rfl ?_)
   rintro _ _ ⟨rfl,rfl⟩
   refine xdf ?_
   refine⟨(),trivial,sbZ,?_⟩
   rw[hT];exact ER
  ·rw[if_neg (fun h=>h3 h.2)] at hT
   exact xjn
 refine CS ?_
 refine xdf ?_
 refine CE (i:=f.kind) (j:=4) rfl (fun k3=>?_) (fun k3=>?_)
 ·have hT:takeR R from_ f ms now=(if R.knownB f=true∧isNodeB from_ R.prevM=true then forwardR R f.entry else (R,[])):=by rw[takeR,if_neg k1,if_neg k2,if_pos k3]
  refine zqa ?_
  refine xin ?_
  refine xdf ?_
  by_cases h1:R.knownB f=true
  rotate_left
  ·rw[if_neg (fun h=>h1 h.1)] at hT
   have h1:R.knownB f=false:=by simpa using h1
   refine VG (VY 77 false rfl h1 ?_)
   refine zph ?_
   exact xjn
  refine VG (VY 77 true rfl h1 ?_)
  refine xdn ?_
  refine xjo ?_
  refine xdn ?_
  refine VG (VO.callV (fun Fr w=>isNode_spec Fr w from_ R.prevM) rfl ?_)
  refine xdn ?_
  refine CC rfl (fun h2=>?_) (fun h2=>CK ?_)
  ·rw[if_pos ⟨h1,h2⟩] at hT
   refine xdf ?_
   refine VG (VL 7 (entC f.entry) rfl rfl rfl rfl ?_)
   refine xjm ?_
   refine xdf ?_
   refine VG (VK (Lc:=[repH p R,outH ob []]) (Lr:=[]) (fun Fr w hF hs hS=>forward_spec Fr w ok ybf f.entry hi1 hi2) rfl rfl ?_)
   rintro _ _ ⟨rfl,rfl⟩
   refine xdf ?_
   refine⟨(),trivial,sbZ,?_⟩
   rw[hT];exact ER
  ·rw[if_neg (fun h=>by have:=h.2;rw[h2] at this;cases this)] at hT
   exact xjn
 refine CS ?_
 refine xdf ?_
 refine CE (i:=f.kind) (j:=5) rfl (fun k4=>?_) (fun k4=>?_)
 ·have hT:takeR R from_ f ms now=(if R.knownB f=true∧isNodeB from_ R.nextM=true then ackR R f else (R,[])):=by rw[takeR,if_neg k1,if_neg k2,if_neg k3,if_pos k4]
  refine zqa ?_
  refine xin ?_
  refine xdf ?_
  by_cases h1:R.knownB f=true
  rotate_left
  ·rw[if_neg (fun h=>h1 h.1)] at hT
   have h1:R.knownB f=false:=by simpa using h1
   refine VG (VY 93 false rfl h1 ?_)
   refine zph ?_
   exact xjn
  refine VG (VY 93 true rfl h1 ?_)
  refine xdn ?_
  refine xit ?_
  refine xdn ?_
  refine VG (VO.callV (fun Fr w=>isNode_spec Fr w from_ R.nextM) rfl ?_)
  refine xdn ?_
  refine CC rfl (fun h2=>?_) (fun h2=>CK ?_)
  ·rw[if_pos ⟨h1,h2⟩] at hT
   refine zqa ?_
   refine xjm ?_
   refine xdf ?_
   refine VG (VK (Lc:=[repH p R,outH ob []]) (Lr:=[]) (fun Fr w hF hs hS=>ack_spec Fr w ok ybf f _) rfl rfl ?_)
   rintro _ _ ⟨rfl,rfl⟩
   refine xdf ?_
   refine⟨(),trivial,sbZ,?_⟩
   rw[hT];exact ER
  ·rw[if_neg (fun h=>by have:=h.2;rw[h2] at this;cases this)] at hT
   exact xjn
 refine CS ?_
 refine xdf ?_
 refine CE (i:=f.kind) (j:=6) rfl (fun k5=>?_) (fun k5=>?_)
 ·have hT:takeR R from_ f ms now=(if R.knownB f=true∧isNodeB from_ R.prevM=true then ((baseR R f.index).becomeR,(baseR R f.index).becomeM) else (R,[])):=by rw[takeR,if_neg k1,if_neg k2,if_neg k3,if_neg k4,if_pos k5]
  refine zqa ?_
  refine xin ?_
  refine xdf ?_
  by_cases h1:R.knownB f=true
  rotate_left
  ·rw[if_neg (fun h=>h1 h.1)] at hT
   have h1:R.knownB f=false:=by simpa using h1
   refine VG (VY 108 false rfl h1 ?_)
   refine zph ?_
   exact xjn
  refine VG (VY 108 true rfl h1 ?_)
  refine xdn ?_
  refine xjo ?_
  refine xdn ?_
  refine VG (VO.callV (fun Fr w=>isNode_spec Fr w from_ R.prevM) rfl ?_)
  refine xdn ?_
  refine CC rfl (fun h2=>?_) (fun h2=>CK ?_)
  ·rw[if_pos ⟨h1,h2⟩] at hT
   have okb:=baseR_ok ok f.index
   refine xik ?_
   refine VG (VO.st 0 (cs':=repCs (baseR R f.index) x) rfl rfl rfl rfl (by show 14<17;omega) (by
    rw[show(if f.index < -1 then (-1:Int) else f.index)=max f.index (-1) by split<;>omega]
    rfl) rfl ?_)
   refine xdf ?_
   refine VO.ent (L':=[repH p (baseR R f.index),outH ob []]) (Imp.rep (R:=baseR R f.index) x (pkZ [0,0,0,0,0,0,0])).ent ?_
   refine VG (VK (Lc:=[repH p (baseR R f.index),outH ob []]) (Lr:=[]) (fun Fr w hF hs hS=>become_spec Fr w okb ybd) rfl rfl ?_)
   rintro _ _ ⟨rfl,rfl⟩
   refine xdf ?_
   refine⟨(),trivial,sbZ,?_⟩
   rw[hT];exact ER
  ·rw[if_neg (fun h=>by have:=h.2;rw[h2] at this;cases this)] at hT
   exact xjn
 refine CS ?_
 refine xdf ?_
 refine CE (i:=f.kind) (j:=10) rfl (fun k6=>?_) (fun k6=>CK ?_)
 rotate_left
 ·exact⟨(),trivial,sbZ,none_ (by rw[takeR,if_neg k1,if_neg k2,if_neg k3,if_neg k4,if_neg k5,if_neg k6])⟩
 have hT:takeR R from_ f ms now=(if R.knownB f=true∧from_=16 then (sureR R f.index,sureS R f.index) else (R,[])):=by rw[takeR,if_neg k1,if_neg k2,if_neg k3,if_neg k4,if_neg k5,if_pos k6]
 refine zqa ?_
 refine xin ?_
 refine xdf ?_
 by_cases h1:R.knownB f=true
 rotate_left
 ·rw[if_neg (fun h=>h1 h.1)] at hT
  have h1:R.knownB f=false:=by simpa using h1
  refine VG (VY 128 false rfl h1 ?_)
  refine zph ?_
  exact xjn
 refine VG (VY 128 true rfl h1 ?_)
 refine xdn ?_
 refine CE (i:=from_) (j:=16) rfl (fun h2=>?_) (fun h2=>CK ?_)
 rotate_left
 ·rw[if_neg (fun h=>h2 h.2)] at hT
  exact xjn
 rw[if_pos ⟨h1,h2⟩] at hT
 refine CN (L':=[rdsH x.rp R.rds,pt p (repCs R x) repT,slH memT 2 x.a R.ch.ms.length x.c (flat memC R.ch.ms),logH x.lp R.log,winH x.wp R.win,admH x.ap R.adm,outH ob [],pt fb (fgC f (ma,ms.length,mc)) frT]) (pkZ [5,0,0,0,0,0,0,0]).ent ?_
 refine CS ?_
 refine CD (ts 0 6 (.take 8 (.only 6 (.take 7 .nil)))) ym yr ?_
 refine xig ?_
 refine AG (AO (OC (Lc:=[rdsH x.rp R.rds]) (R:=fun v L=>∃a c rows,rows.map Prod.fst=R.rds.l.filter (fun x=>!surely f.index x)∧v=.slice a rows.length c∧L=[rdsH x.rp { R.rds with l:=R.rds.l.filter (surely f.index) },slH rdT 34 a rows.length c (flat rdC rows)]) rfl (.refl _) (fun Fr w hF hs hS=>Rd.sure_spec Fr w ok.rc0 yd f.index)) rfl ?_ ?_)
 ·rintro _ _ ⟨_,⟨ga,gc,rows,hrows,rfl,rfl⟩,rfl⟩
  exact yu
 rintro _ _ ⟨_,⟨ga,gc,rows,hrows,rfl,rfl⟩,rfl⟩
 (repeat(first|refine yG (yN ?_)|refine yG (yD 0 rfl rfl rfl rfl rfl ?_)|refine yG (yD 1 rfl rfl rfl rfl rfl ?_)|refine yG (yD 2 rfl rfl rfl rfl rfl ?_)|refine yG (yD 3 rfl rfl rfl rfl rfl ?_)|refine yG (yD 4 rfl rfl rfl rfl rfl ?_)|refine yG (yD 5 rfl rfl rfl rfl rfl ?_)|refine yG (yD 6 rfl rfl rfl rfl rfl ?_)|refine yG (yD 7 rfl rfl rfl rfl rfl ?_)|refine yG (yD 8 rfl rfl rfl rfl rfl ?_)))
 have hrowl:rows.length≤16:=by
  have:=congrArg List.length hrows
  rw[List.length_map] at this
  have h2:=List.length_filter_le (fun y=>!surely f.index y) R.rds.l
  omega
 show VC _ _ _ [rdsH x.rp (sureR R f.index).rds,slH rdT 34 ga rows.length gc (flat rdC rows),pt p (repCs R x) repT,slH memT 2 x.a R.ch.ms.length x.c (flat memC R.ch.ms),logH x.lp R.log,winH x.wp R.win,admH x.ap R.adm,outH ob [],pt fb (fgC f (ma,ms.length,mc)) frT] _
 refine VC.opn 1 rfl (HOpn.rl rdT ga gc rows rdC_len) ?_
 rintro r ⟨rok,hrv,hrx⟩
 show VC _ _ _ [r.h rdT,rdsH x.rp (sureR R f.index).rds,pt p (repCs R x) repT,slH memT 2 x.a R.ch.ms.length x.c (flat memC R.ch.ms),logH x.lp R.log,winH x.wp R.win,admH x.ap R.adm,outH ob [],pt fb (fgC f (ma,ms.length,mc)) frT] _
 have hexp:∀i,i≤rows.length→(rows.take i).length=i:=fun i hi=>by simp;omega
 refine VC.block ?_
 refine VC.loop (σ:=Nat) (fun i=>[(0,pV p),(9,pV ob),(10,sendF ob),(138,.slice ga rows.length gc),(139,.int .i64 rows.length),(140,.int .i64 i)])
  (fun i=>[r.h rdT,rdsH x.rp (sureR R f.index).rds,pt p (repCs R x) repT,slH memT 2 x.a R.ch.ms.length x.c (flat memC R.ch.ms),logH x.lp R.log,winH x.wp R.win,admH x.ap R.adm,outH ob ((rows.take i).map fun y=>(32+y.1.f.client,replyF y.1.f.client y.1.f.seq y.1.f.try_ y.1.r))])
  (fun i=>i≤rows.length) (fun i=>rows.length-i) 0
  (Nat.zero_le _) sbZ (pkZ [0,0,0,0,0,0,0,0]).ent ?_
 intro i hi
 refine xdf ?_
 refine CP rfl (fun h1=>CK ?_) (fun h1=>CX ?_)
 ·have hi2:i<rows.length:=by omega
  obtain⟨g,hg⟩:∃g,rows[i]?=some g:=⟨_,GE hi2⟩
  have hgm:g.1∈R.rds.l:=by
   have h2:g.1∈rows.map Prod.fst:=List.mem_map.2 ⟨g,ME hg,rfl⟩
   rw[hrows] at h2
   exact(List.mem_filter.1 h2).1
  have hcg:=ok.rcl g.1 hgm
  obtain⟨gb,go,r1,r2,hrd⟩:=rok.ld (t:=rdT) (hrx▸hg) rfl
  obtain rfl:ga=some ⟨gb,go,none⟩:=by rw[RL.v,r2,hrx] at hrv;injection hrv with e1;exact e1.symm
  refine zpp ?_
  refine xiz ?_
  refine VG (VO.alloc rfl fun tb=>?_)
  refine xja ?_
  refine xdf ?_
  refine VG (VL 0 (resC g.1.r) rfl rfl rfl rfl ?_)
  refine xdf ?_
  refine VG (VQ 8 rfl (fun Fr w hF hs hS=>reply_spec Fr w (by rw[List.length_map,hexp i yd];omega) g.1.f.client g.1.f.seq g.1.f.try_ hcg.1 yd g.1.r) rfl (ψ:=fun v H=>v=.tuple #[]∧H=outH ob ((rows.take i).map (fun y=>(32+y.1.f.client,replyF y.1.f.client y.1.f.seq y.1.f.try_ y.1.r)) ++ [(32+g.1.f.client,replyF g.1.f.client g.1.f.seq g.1.f.try_ g.1.r)])) yy ?_)
  rintro _ _ ⟨rfl,rfl⟩
  refine zor ?_
  refine⟨i+1,hi2,by dsimp only;omega,sbZ,?_⟩
  dsimp only
  rw[List.take_add_one,hg,Option.toList_some,List.map_append,List.map_singleton]
  exact(pkZ [1,1,1,1,1,1,1,1]).ent
 obtain rfl:i=rows.length:=by omega
 rw[List.take_length]
 have hes:(rows.map fun y=>((32+y.1.f.client,replyF y.1.f.client y.1.f.seq y.1.f.try_ y.1.r):SndM))=sureS R f.index:=by
  unfold sureS
  rw[←hrows,List.map_map];rfl
 rw[hes]
 refine⟨(),trivial,sbZ,?_⟩
 rw[hT]
 exact(Imp.rep (R:=sureR R f.index) x (pkZ [2,2,2,2,2,1,1])).ent
end
end Rep
namespace Rep
open Go Vg T Api Kv Ch Lg Rd Win Adm Sched Conf
attribute [local irreducible] VO VC VA
section
variable {p:Nat} {R:RepM}
theorem rsince_spec(h:SatIn Fr [repH p R] w):Tri Tryz.prog 53 [.pointer (some ⟨p,0,none⟩)] Fr w [] (fun v L=>v=.int .i64 R.since∧L=[]):=by
 obtain⟨x,hx⟩:=RepIn.of' h
 have hb:=hx.blk
 refine TF 10 Tryz.func53 rfl ym tabOk rfl rfl ?_
 refine xdf ?_
 refine VG (VV (fun Fr w hF hs _=>made_spec Fr w (hb.of hF hs)) rfl (VG (VN (VC.condF rfl (CK ?_)))))
 refine xdi ?_
 exact xem
theorem log_spec(ok:R.Ok)(h:SatIn Fr [repH p R] w):Tri Tryz.prog 92 [.pointer (some ⟨p,0,none⟩)] Fr w [] (fun v L=>∃q,v=.pointer (some ⟨q,0,none⟩)∧L=[logH q R.log]):=by
 obtain⟨x,hx⟩:=RepIn.of' h
 have hb:=hx.blk
 have hl:=hx.log
 have h1:=ok.last;have h2:=ok.win.last1
 refine TF 11 Tryz.func92 rfl ym tabOk rfl rfl ?_
 refine xdf ?_
 refine VG (VV (fun Fr w hF hs _=>made_spec Fr w (hb.of hF hs)) rfl (VG (VN (VC.condF rfl (CK ?_)))))
 refine xdi ?_
 refine VG (VK (Lc:=[]) (fun Fr w hF hs _=>Lg.copy_spec Fr w (hl.of hF hs) yd) rfl rfl ?_)
 rintro _ _ ⟨q,rfl,rfl⟩
 refine xdf ?_
 exact xew
theorem window_spec(ok:R.Ok)(h:SatIn Fr [repH p R] w):Tri Tryz.prog 60 [.pointer (some ⟨p,0,none⟩)] Fr w [] (fun v L=>∃q,v=.pointer (some ⟨q,0,none⟩)∧L=[winH q R.win]):=by
 obtain⟨x,hx⟩:=RepIn.of' h
 have hb:=hx.blk
 have hl:=hx.win
 refine TF 11 Tryz.func60 rfl ym tabOk rfl rfl ?_
 refine xdf ?_
 refine VG (VV (fun Fr w hF hs _=>made_spec Fr w (hb.of hF hs)) rfl (VG (VN (VC.condF rfl (CK ?_)))))
 refine xdi ?_
 refine VG (VK (Lc:=[]) (fun Fr w hF hs _=>Win.copy_spec Fr w (hl.of hF hs) ok.win.cap0) rfl rfl ?_)
 rintro _ _ ⟨q,rfl,rfl⟩
 refine xdf ?_
 exact xew
theorem chain_spec(ok:R.Ok)(h:SatIn Fr [repH p R] w):Tri Tryz.prog 31 [.pointer (some ⟨p,0,none⟩)] Fr w [] (fun v L=>∃a c,v=.agg (R.ch.cells a c).toArray∧L=[slH memT 2 a R.ch.ms.length c (flat memC R.ch.ms)]):=by
 obtain⟨x,hx⟩:=RepIn.of' h
 have hb:=hx.blk
 have hm:=hx.mem
 have hl:=ok.ch.len
 refine TF 12 Tryz.func31 rfl ym tabOk rfl rfl ?_
 refine CS (CG (VG (VO.alloc rfl fun d=>?_)))
 refine xdf ?_
 refine VG (VV (fun Fr w hF hs _=>made_spec Fr w (hb.of hF hs)) rfl (VG (VN (VC.condF rfl (CK ?_)))))
 refine xdf ?_
 refine VG (VO.load rfl rfl (RdL.blkA (ds:=R.ch.cells x.a x.c) hb rfl) ?_)
 refine xjf ?_
 rintro _ _ ⟨a',c',rfl,rfl⟩
 refine VG (VT (vs:=R.ch.cells a' c') (cs':=R.ch.cells a' c') 1 rfl rfl rfl rfl (NR _) rfl rfl rfl ?_)
 refine xdf ?_
 exact xje
def drainedF(epoch:Int):FrameM:={ FrameM.zero with kind:=12,epoch:=epoch }
def tick1(R:RepM):RepM:=if R.linked then { R with win:={ R.win with sent:=min (max R.have_ 0) R.win.last } } else R
def tickR(R:RepM):RepM×List SndM:=(tick1 R,R.masterM++R.greetM++R.baseM++(if (!R.rds.l.isEmpty)=true then [(16,confirmF R.ch.epoch R.rds.lastI)] else [])++(if R.drainsB=true∧R.win.done=R.win.last then [(16,drainedF R.ch.epoch)] else []))
theorem tick1_ok{R:RepM}(h:R.Ok):(tick1 R).Ok:=by
 unfold tick1
 split
 ·have hw:=h.win
  refine⟨h.ch,⟨hw.cap0,hw.cap1,hw.done0,hw.done1,hw.last1,?_,?_,hw.lim0,hw.lim1⟩,h.last,h.logc,h.logi,h.rc0,h.rc1,h.rl,h.rn0,h.rn1,h.rcl,h.calls,h.wf⟩
  ·show 0≤min (max R.have_ 0) R.win.last
   have:=hw.done0;have:=hw.done1;omega
  ·show min (max R.have_ 0) R.win.last≤R.win.last;omega
 ·exact h
theorem tick_stays(R:RepM):Stays R (tickR R).1:=by
 show Stays R (tick1 R)
 unfold tick1;split<;>exact⟨rfl,rfl,rfl,rfl,rfl⟩
theorem tickR_fit{R:RepM}(h:R.Fit):(tickR R).1.Fit:=h.stays (tick_stays R) (tick1_ok h.ok)
theorem tick_spec(ok:R.Ok)(now:Int):Tri Tryz.prog 121 [.pointer (some ⟨p,0,none⟩),.int .i64 now] Fr w [repH p R]
  (fun v L=>sent (tickR R).2 v L [repH p (tickR R).1]):=by
 have hrl:R.rds.l.length≤16:=by have:=ok.rl;have:=ok.rc1;omega
 have gl:R.greetM.length≤1:=by unfold RepM.greetM;split<;>simp
 have bl:R.baseM.length≤1:=by unfold RepM.baseM;split<;>simp
 have ml:R.masterM.length=1:=rfl
 refine TF 78 Tryz.func121 rfl ym tabOk rfl rfl ?_
 refine xic ?_
 rintro x -
 show VC _ _ _ [pt p (repCs R x) repT,slH memT 2 x.a R.ch.ms.length x.c (flat memC R.ch.ms),logH x.lp R.log,winH x.wp R.win,admH x.ap R.adm,rdsH x.rp R.rds] _
 refine xdf ?_
 refine xix ?_
 refine zpb ?_
 refine VG (VO.alloc rfl fun ob=>?_)
 refine xdf ?_
 refine xiy ?_
 refine xdf ?_
 refine VO.ent (L':=repO p R x ob []) (IP 1 rfl (IP 1 rfl (IP 1 rfl (IP 1 rfl (IP 1 rfl (IP 1 rfl (Imp.out (none,0) (IP 0 rfl (Imp.slNil Imp.nil))))))))).ent ?_
 unfold repO
 refine VG (VQ 6 rfl (fun Fr w hF hs hS=>tellMaster_spec Fr w (hS.blk 0 rfl) (by show 0≤1000000;omega)) rfl (ψ:=fun v H=>v=.tuple #[]∧H=outH ob ([]++R.masterM)) yy ?_)
 rintro _ _ ⟨rfl,rfl⟩
 refine xdf ?_
 refine VG (VQ 6 rfl (fun Fr w hF hs hS=>greet_spec Fr w (RepIn.pcs hS 0 rfl rfl rfl rfl rfl rfl) ok.ch ok.win (by rw[List.nil_append];omega)) rfl (ψ:=fun v H=>v=.tuple #[]∧H=outH ob (R.masterM++R.greetM)) yy ?_)
 rintro _ _ ⟨rfl,rfl⟩
 refine xdf ?_
 refine VG (VQ 6 rfl (fun Fr w hF hs hS=>tellBase_spec Fr w (RepIn.pcs hS 0 rfl rfl rfl rfl rfl rfl) ok.ch yp) rfl (ψ:=fun v H=>v=.tuple #[]∧H=outH ob (R.masterM++R.greetM++R.baseM)) yy ?_)
 rintro _ _ ⟨rfl,rfl⟩
 generalize hS1:R.masterM++R.greetM++R.baseM=S1
 have hS1l:S1.length≤3:=by rw[←hS1,List.length_append,List.length_append];omega
 refine xeg ?_
 show VC _ _ _ (repO p R x ob S1) _
 have R2e:∀(y:RepS) (S:List SndM),repO p (tick1 R) y ob S=[pt p (repCs (tick1 R) y) repT,slH memT 2 y.a (tick1 R).ch.ms.length y.c (flat memC (tick1 R).ch.ms),logH y.lp (tick1 R).log,winH y.wp (tick1 R).win,admH y.ap (tick1 R).adm,rdsH y.rp (tick1 R).rds,outH ob S]:=fun _ _=>rfl
 refine CS ?_
 refine VC.meetS (σ:=Unit) (fun _=>[(0,pV p),(5,pV ob),(6,sendF ob)]) (fun _=>repO p (tick1 R) x ob S1) (fun _=>True) ?_ ?_
 ·unfold repO
  refine xdf ?_
  refine CC rfl (fun h1=>?_) (fun h1=>CK ?_)
  ·have e:tick1 R={ R with win:={ R.win with sent:=min (max R.have_ 0) R.win.last } }:=by rw[tick1,if_pos h1]
   refine CD (ts 0 8 (.only 8 .nil)) ym yr ?_
   refine xeh ?_
   refine AG (AQ 3 rfl (fun Fr w hF hs hS=>Win.back_spec Fr w ok.win R.have_) rfl rfl (ψ:=fun v H=>v=.tuple #[]∧H=winH x.wp { R.win with sent:=min (max R.have_ 0) R.win.last }) yy ?_ ?_)
   ·rintro _ _ ⟨rfl,rfl⟩
    exact yu
   rintro _ _ ⟨rfl,rfl⟩
   refine xeh ?_
   refine⟨(),trivial,sbZ,?_⟩
   rw[e];exact ER
  ·have e:tick1 R=R:=by rw[tick1,if_neg yas]
   refine⟨(),trivial,sbZ,?_⟩
   rw[e];exact ER
 rintro _ -
 have et:(tick1 R).rds=R.rds∧(tick1 R).ch=R.ch∧(tick1 R).drainsB=R.drainsB∧(tick1 R).win.done=R.win.done∧(tick1 R).win.last=R.win.last:=by unfold tick1;split<;>exact⟨rfl,rfl,rfl,rfl,rfl⟩
 have okt:=tick1_ok ok
 have htk:tickR R=(tick1 R,S1++(if (!(tick1 R).rds.l.isEmpty)=true then [(16,confirmF (tick1 R).ch.epoch (tick1 R).rds.lastI)] else [])++(if (tick1 R).drainsB=true∧(tick1 R).win.done=(tick1 R).win.last then [(16,drainedF (tick1 R).ch.epoch)] else [])):=by
  rw[et.1,et.2.1,et.2.2.1,et.2.2.2.1,et.2.2.2.2,←hS1];rfl
 rw[htk]
 have hrt:(tick1 R).rds.l.length≤16:=by rw[et.1];exact hrl
 generalize tick1 R=Q at *
 refine CS ?_
 refine VC.meetS (σ:=Unit) (fun _=>[(0,pV p),(5,pV ob),(6,sendF ob)]) (fun _=>repO p Q x ob (S1++(if (!Q.rds.l.isEmpty)=true then [(16,confirmF Q.ch.epoch Q.rds.lastI)] else []))) (fun _=>True) ?_ ?_
 ·unfold repO
  refine xdf ?_
  refine VG (VV (fun Fr w hF hs hS=>Rd.last_spec Fr w (hS.at_ 5 rfl) okt.rc0 yd) rfl ?_)
  refine xdf ?_
  refine CC rfl (fun h1=>?_) (fun h1=>CK ?_)
  ·refine xdf ?_
   refine VG (VI (LB (pv:=[(0,.int .i64 9),(1,.int .i64 Q.ch.epoch),(12,.int .i64 Q.rds.lastI)]) (fgC (confirmF Q.ch.epoch Q.rds.lastI) mem0) rfl rfl rfl ym rfl) ?_)
   refine VG (VO.callFAt 6 rfl rfl (fun Fr w hF hs _=>add_spec Fr w ob S1 yd 16 (confirmF Q.ch.epoch Q.rds.lastI)) rfl (ψ:=fun v H=>v=.tuple #[]∧H=outH ob (S1 ++ [(16,confirmF Q.ch.epoch Q.rds.lastI)])) yy ?_)
   rintro _ _ ⟨rfl,rfl⟩
   refine xdf ?_
   refine⟨(),trivial,sbZ,?_⟩
   rw[if_pos h1];exact ER
  ·refine⟨(),trivial,sbZ,?_⟩
   rw[if_neg yas,List.append_nil];exact ER
 rintro _ -
 generalize hS2:S1++(if (!Q.rds.l.isEmpty)=true then [(16,confirmF Q.ch.epoch Q.rds.lastI)] else [])=S2
 have hS2l:S2.length≤4:=by rw[←hS2,List.length_append];split<;>simp<;>omega
 refine CS ?_
 refine VC.meetS (σ:=Unit) (fun _=>[(5,pV ob)]) (fun _=>[repH p Q,outH ob (S2++(if Q.drainsB=true∧Q.win.done=Q.win.last then [(16,drainedF Q.ch.epoch)] else []))]) (fun _=>True) ?_ ?_
 ·unfold repO
  have no:¬(Q.drainsB=true∧Q.win.done=Q.win.last)→∀{X:Cx},Ent X (repO p Q x ob S2) [repH p Q,outH ob (S2++(if Q.drainsB=true∧Q.win.done=Q.win.last then [(16,drainedF Q.ch.epoch)] else []))]:=fun h {X}=>by
   rw[if_neg h,List.append_nil];exact repO_shut.ent
  refine CS ?_
  refine CD (ts 0 1 (.only 1 (ts 2 5 (ts 8 4 (.only 7 (.only 12 (ts 13 2 .nil))))))) ym yr ?_
  refine xeh ?_
  refine AG (AR (fun Fr w hF hs hS=>drains_spec Fr w (hS.blk 0 rfl)) rfl rfl yu ?_)
  refine xeh ?_
  by_cases h1:Q.drainsB=true
  rotate_left
  ·have h1':Q.drainsB=false:=by simpa using h1
   refine AG (AY 55 false rfl h1' ?_)
   refine zpy ?_
   refine zpe ?_
   refine xdy ?_
   exact⟨(),trivial,sbZ,no (fun h=>h1 h.1)⟩
  refine AG (AY 55 true rfl h1 ?_)
  refine xeu ?_
  refine AG (AR (fun Fr w hF hs hS=>Win.done_spec Fr w (hS.blk 3 rfl) okt.win.cap0) rfl rfl yu ?_)
  refine xeu ?_
  refine AG (AR (fun Fr w hF hs hS=>Win.last_spec Fr w (hS.blk 3 rfl) okt.win.cap0) rfl rfl yu ?_)
  refine xeu ?_
  refine CE (i:=Q.win.done) (j:=Q.win.last) rfl (fun h2=>?_) (fun h2=>CK ?_)
  ·refine xdf ?_
   refine VG (VI (LB (pv:=[(0,.int .i64 12),(1,.int .i64 Q.ch.epoch)]) (fgC (drainedF Q.ch.epoch) mem0) rfl rfl rfl ym rfl) ?_)
   refine VG (VO.callFAt 6 rfl rfl (fun Fr w hF hs _=>add_spec Fr w ob S2 yd 16 (drainedF Q.ch.epoch)) rfl (ψ:=fun v H=>v=.tuple #[]∧H=outH ob (S2 ++ [(16,drainedF Q.ch.epoch)])) yy ?_)
   rintro _ _ ⟨rfl,rfl⟩
   refine xdf ?_
   refine⟨(),trivial,sbZ,?_⟩
   rw[if_pos ⟨h1,h2⟩];exact(repO_shut (x:=x)).ent
  ·exact⟨(),trivial,sbZ,no (fun h=>h2 h.2)⟩
 rintro _ -
 refine VC.opn 1 rfl (HOpn.out ob _) ?_
 rintro⟨a,c⟩ -
 refine xdf ?_
 exact xjb
end
end Rep
namespace Rep
open Go Vg T Api Kv Ch Lg Rd Win Adm Sched Conf
attribute [local irreducible] VO VC VA
def putM(client seq try_ epoch:Int):FrameM:={ FrameM.zero with kind:=1,epoch:=epoch,client:=client,seq:=seq,try_:=try_,deadline:=9,op:=⟨2,⟨#[107]⟩,⟨#[118]⟩,0⟩ }
end Rep
namespace Cl
open Go Vg T Api Ch Conf Rep
abbrev SdM:=Int×FrameM×List MemM
def ofS(S:List SndM):List SdM:=S.map fun x=>(x.1,x.2,[])
def opZe:OpM:=⟨0,⟨#[]⟩,⟨#[]⟩,0⟩
def tickN(n:Int):Int:=min (max n 0) 1099511627776
def cfgF(c:ChM):FrameM:={ FrameM.zero with kind:=8,cepoch:=c.epoch,drain:=c.drain }
def cfgS(c:ChM)(to:Int):SdM:=(to,cfgF c,c.ms)
def furtherE(c:ChM):Int:=if chE c≠0∨c.epoch=1099511627776 then 2 else 0
def leavingE(c:ChM)(n:Int):Int:=if placeOf c.ms n<0 then 4 else if c.ms.length=1 then 72 else 0
def chNil:ChM:=⟨0,[],0⟩
def withC(c:ChM)(n:Int):ChM×Int:=
 if furtherE c≠0 then (chNil,2) else if nodeB n=false then (chNil,2) else if 0≤placeOf c.ms n then (chNil,62)
 else (⟨c.epoch+1,c.ms ++ [(n,c.epoch+1)],c.drain⟩,0)
def withoutC(c:ChM)(n:Int):ChM×Int:=
 if furtherE c≠0 then (chNil,2) else if leavingE c n≠0 then (chNil,leavingE c n)
 else (⟨c.epoch+1,c.ms.eraseIdx (placeOf c.ms n).toNat,if c.drain=n then -1 else c.drain⟩,0)
def drainC(c:ChM)(n:Int):ChM×Int:=
 if furtherE c≠0 then (chNil,2) else if leavingE c n≠0 then (chNil,leavingE c n) else if c.drain≠-1 then (chNil,62)
 else (⟨c.epoch+1,c.ms,n⟩,0)
structure BktM where
 cap:Int
 refill:Int
 tokens:Int
 tick:Int
 since:Int
def bringN:Nat→BktM→BktM
 | 0,b=>b
 | k+1,b=>if b.tokens<b.cap∧b.since+b.refill≤b.tick then bringN k { b with tokens:=b.tokens+1,since:=b.since+b.refill } else b
def BktM.at(b:BktM)(now:Int):BktM:={ b with tick:=min (max now b.tick) 1099511627776 }
def BktM.full(b:BktM):BktM:=if b.tokens=b.cap then { b with since:=b.tick } else b
def BktM.bring(b:BktM)(now:Int):BktM:=(bringN 17 (b.at now)).full
def BktM.take(b:BktM)(now:Int):BktM×Bool:=
 if (b.bring now).tokens=0 then (b.bring now,false) else ({ b.bring now with tokens:=(b.bring now).tokens-1 },true)
def gapM(tries most:Int):Int:=
 if tries<1 then 0 else if 7<tries then min (max most 0) 64 else min ((2 ^ (tries-1).toNat:Nat):Int) (min (max most 0) 64)
structure OutM where
 kind:Int
 reason:Int
 res:ResM
def resZ:ResM:=⟨0,⟨#[]⟩,0,0⟩
structure CliM where
 id:Int
 cls:Int
 timeout:Int
 budget:Int
 tok:BktM
 ch:ChM
 out:Option (Option OutM)
 doing:Int
 since:Int
 until_:Int
 unsure:Bool
 seq:Int
 tries:Int
 cl:Int
 deadline:Int
 op:OpM
def newCl(c:ConfM)(id:Int):CliM:=⟨id,c.qs.length,c.timeout,c.budget,⟨c.budget,c.refill,c.budget,0,0⟩,chNil,none,0,0,0,false,0,0,0,0,opZe⟩
def askS:List SdM:=[(16,{ FrameM.zero with kind:=7 },[])]
def readsO(o:OpM):Bool:=decide (o.kind=1)&&decide (opCheck o=0)
def CliM.ask(s:CliM)(now:Int):CliM×List SdM:=({ s with doing:=1,since:=now },askS)
def callF(s:CliM):FrameM:={ FrameM.zero with kind:=1,epoch:=s.ch.epoch,client:=s.id,seq:=s.seq,try_:=s.tries,cls:=s.cl,deadline:=s.deadline,op:=s.op }
def CliM.to(s:CliM):Int:=if readsO s.op then tailOf s.ch else headOf s.ch
def CliM.tried(s:CliM)(now:Int):CliM:={ s with tries:=s.tries+1,doing:=2,since:=now }
def CliM.try_(s:CliM)(now:Int):CliM×List SdM:=(s.tried now,[((s.tried now).to,callF (s.tried now),[])])
def setO(o:Option (Option OutM))(x:OutM):Option (Option OutM):=match o with
 | some none=>some (some x)
 | o=>o
def CliM.end_(s:CliM)(o:OutM):CliM:={ s with out:=setO s.out o,doing:=0 }
def CliM.giveUp(s:CliM)(reason:Int):CliM×List SdM:=(s.end_ (if s.unsure then ⟨3,0,resZ⟩ else ⟨2,reason,resZ⟩),askS)
def CliM.pause(s:CliM)(now:Int):CliM:={ s with doing:=3,until_:=now+gapM s.tries 64 }
def CliM.took(s:CliM)(now:Int):CliM:={ s with tok:=(s.tok.take now).1 }
def CliM.goOn(s:CliM)(reason now:Int):CliM×List SdM:=
 if s.budget<s.tries∨s.deadline<now then s.giveUp reason
 else if (s.tok.take now).2 then ((s.took now).pause now,[]) else (s.took now).giveUp reason
def CliM.begun(s:CliM)(o:OpM)(cl deadline:Int):CliM:={ s with out:=some none,seq:=s.seq+1,tries:=0,unsure:=false,op:=o,cl:=cl,deadline:=deadline }
def CliM.callE(s:CliM)(o:OpM)(cl deadline:Int):Int:=
 if s.doing≠0 then 63 else if opCheck o≠0∨cl<0∨s.cls≤cl∨deadline<0∨1099511627776<deadline then 2 else 0
def CliM.call(s:CliM)(o:OpM)(cl deadline now:Int):CliM×List SdM:=
 if s.callE o cl deadline≠0 then (s,[]) else if 0<s.ch.epoch then (s.begun o cl deadline).try_ (tickN now) else (s.begun o cl deadline).ask (tickN now)
def CliM.refused(s:CliM)(reason now:Int):CliM×List SdM:=
 if reason=6∨reason=5∨reason=7 then ({ s with unsure:=true }:CliM).goOn reason now
 else if reason=2∨reason=10 then s.giveUp reason else s.goOn reason now
def CliM.take(s:CliM)(f:FrameM)(ms:List MemM)(now:Int):CliM×List SdM:=
 if f.kind=8 then
  if chE ⟨f.cepoch,ms,f.drain⟩≠0∨f.cepoch<s.ch.epoch then (s,[])
  else if s.doing=1 then ({ s with ch:=⟨f.cepoch,ms,f.drain⟩ }:CliM).try_ (tickN now) else ({ s with ch:=⟨f.cepoch,ms,f.drain⟩ },[])
 else if f.kind=2 then if s.doing≠0∧f.client=s.id∧f.seq=s.seq then (s.end_ ⟨1,0,f.res⟩,[]) else (s,[])
 else if f.kind=3 then if s.doing=2∧f.client=s.id∧f.seq=s.seq∧f.try_=s.tries then s.refused f.reason (tickN now) else (s,[])
 else (s,[])
def CliM.tick(s:CliM)(now:Int):CliM×List SdM:=
 if s.doing=2 then if s.timeout≤tickN now-s.since then ({ s with unsure:=true }:CliM).goOn 0 (tickN now) else (s,[])
 else if s.doing=1 then if tickN now-s.since<s.timeout then (s,[]) else if s.deadline<tickN now then s.giveUp 2 else s.ask (tickN now)
 else if s.doing=3 then if s.until_≤tickN now then s.ask (tickN now) else (s,[])
 else (s,[])
def CliM.outcome(s:CliM):Option OutM:=s.out.getD none
structure MasM where
 nodes:Int
 patience:Int
 ch:ChM
 heard:List Int
 whole:List Bool
def newM(c:ConfM):MasM:=⟨c.nodes,c.patience,firstC c,List.replicate 6 0,(List.range 6).map fun(i:Nat)=>decide ((i:Int)<c.chain)⟩
def MasM.wholeB(m:MasM)(n:Int):Bool:=(m.whole[n.toNat]?).getD false
def MasM.heardN(m:MasM)(n:Int):Int:=(m.heard[n.toNat]?).getD 0
def MasM.mayGo(m:MasM)(n:Int):Bool:=m.ch.ms.any fun x=>!decide (x.1=n)&&m.wholeB x.1
def MasM.isNode(m:MasM)(n:Int):Bool:=decide (0≤n)&&decide (n<m.nodes)
def MasM.all(m:MasM):List SdM:=(List.range m.nodes.toNat).map fun(n:Nat)=>cfgS m.ch (n:Int)
def MasM.outE(m:MasM)(n:Int):Int:=(withoutC m.ch n).2
def MasM.gone(m:MasM)(n:Int):MasM:={ m with ch:=(withoutC m.ch n).1,whole:=m.whole.set n.toNat false }
def MasM.out(m:MasM)(n:Int):MasM:=if m.outE n≠0 then m else m.gone n
def sureF(epoch index:Int):FrameM:={ FrameM.zero with kind:=10,epoch:=epoch,index:=index }
def MasM.heardAt(m:MasM)(from_ now:Int):MasM:={ m with heard:=m.heard.set from_.toNat (tickN now) }
def MasM.wholeAt(m:MasM)(from_:Int):MasM:={ m with whole:=m.whole.set from_.toNat true }
def MasM.take(m:MasM)(from_:Int)(f:FrameM)(now:Int):MasM×List SdM:=
 if f.kind=7 then (m,[cfgS m.ch from_])
 else if m.isNode from_=false then (m,[])
 else if f.kind=11 then
  if f.epoch≠m.ch.epoch then (m.heardAt from_ now,[cfgS m.ch from_])
  else if f.index=1∧(sinceOf m.ch from_).2=true then ((m.heardAt from_ now).wholeAt from_,[]) else (m.heardAt from_ now,[])
 else if f.kind=9 then
  if f.epoch≠m.ch.epoch then (m,[cfgS m.ch from_]) else if tailOf m.ch=from_ then (m,[(from_,sureF f.epoch f.index,[])]) else (m,[])
 else if f.kind=12 then
  if (f.epoch=m.ch.epoch∧m.ch.drain=from_)∧m.mayGo from_=true∧m.outE from_=0 then (m.gone from_,(m.gone from_).all) else (m,[])
 else (m,[])
def MasM.late(m:MasM)(now n:Int):Bool:=decide (m.patience<now-m.heardN n)&&(m.mayGo n&&decide (m.outE n=0))
def MasM.watch(now:Int):List MemM→MasM×Bool→MasM×Bool
 | [],x=>x
 | y::l,x=>MasM.watch now l (if x.1.late now y.1 then (x.1.gone y.1,true) else x)
def MasM.tick(m:MasM)(now:Int):MasM×List SdM:=
 ((MasM.watch (tickN now) m.ch.ms (m,false)).1,if (MasM.watch (tickN now) m.ch.ms (m,false)).2 then (MasM.watch (tickN now) m.ch.ms (m,false)).1.all else [])
def MasM.mayE(m:MasM)(n:Int):Int:=if (sinceOf m.ch n).2=false then 4 else if m.mayGo n=false then 72 else 0
def MasM.suspect(m:MasM)(n:Int):MasM×List SdM×Int:=
 if m.mayE n≠0 then (m,[],m.mayE n) else if m.outE n≠0 then (m,[],m.outE n) else (m.gone n,(m.gone n).all,0)
def MasM.joined(m:MasM)(n now:Int):MasM:={ m with ch:=(withC m.ch n).1,whole:=m.whole.set n.toNat false,heard:=m.heard.set n.toNat (tickN now) }
def MasM.join(m:MasM)(n now:Int):MasM×List SdM×Int:=
 if m.isNode n=false then (m,[],2) else if (withC m.ch n).2≠0 then (m,[],(withC m.ch n).2) else (m.joined n now,(m.joined n now).all,0)
def MasM.drained(m:MasM)(n:Int):MasM:={ m with ch:=(drainC m.ch n).1 }
def MasM.drain(m:MasM)(n:Int):MasM×List SdM×Int:=
 if m.mayE n≠0 then (m,[],m.mayE n) else if (drainC m.ch n).2≠0 then (m,[],(drainC m.ch n).2) else (m.drained n,(m.drained n).all,0)
structure RecM where
 client:Int
 seq:Int
 op:OpM
 from_:Int
 to:Int
 out:OutM
def outZ:OutM:=⟨0,0,resZ⟩
structure HisM where
 recs:List RecM
 events:Int
 last:List Int
def newH:HisM:=⟨[],0,List.replicate 6 0⟩
def HisM.lastOf(h:HisM)(c:Int):Option (Nat×RecM):=
 if c<0∨6≤c∨(h.last[c.toNat]?).getD 0=0 then none
 else (h.recs[((h.last[c.toNat]?).getD 0).toNat-1]?).map fun r=>(((h.last[c.toNat]?).getD 0).toNat-1,r)
def HisM.callE(h:HisM)(c seq:Int)(o:OpM):Int:=
 if c<0∨6≤c∨seq<1∨opCheck o≠0 then 2
 else match h.lastOf c with
  | none=>0
  | some (_,r)=>if r.to<0 then 63 else if seq≤r.seq then 70 else 0
def HisM.call(h:HisM)(c seq:Int)(o:OpM):HisM:=
 if h.callE c seq o≠0 then h
 else ⟨h.recs ++ [⟨c,seq,o,h.events,-1,outZ⟩],h.events+1,h.last.set c.toNat ((h.recs.length:Int)+1)⟩
def HisM.end_(h:HisM)(c seq:Int)(o:OutM):HisM:=
 if o.kind≠1∧o.kind≠2∧o.kind≠3 then h
 else match h.lastOf c with
  | none=>h
  | some (i,r)=>if r.seq≠seq∨0≤r.to then h else { h with recs:=h.recs.set i { r with to:=h.events,out:=o },events:=h.events+1 }
abbrev PrM:=Int×Int
structure LnkM where
 cap:Int
 mail:List (PrM×List ByteArray)
def LnkM.list(l:LnkM)(p:PrM):List ByteArray:=(mGet l.mail p).getD []
def adrB(a:Int):Bool:=(decide (0≤a)&&decide (a<6))||(decide (a=16)||(decide (32≤a)&&decide (a<38)))
def LnkM.sendE(l:LnkM)(p:PrM)(t:ByteArray):Int:=
 if adrB p.1=false∨adrB p.2=false∨p.1=p.2 then 2 else if 512<t.size then 3 else if l.cap≤(l.list p).length then 60 else 0
def LnkM.send(l:LnkM)(p:PrM)(t:ByteArray):LnkM:=if l.sendE p t≠0 then l else { l with mail:=mPut l.mail p (l.list p ++ [t]) }
def LnkM.find(l:LnkM)(p:PrM)(i:Int):Option ByteArray:=if i<0 then none else (l.list p)[i.toNat]?
def LnkM.without(l:LnkM)(p:PrM)(i:Int):LnkM:=
 if ((l.list p).eraseIdx i.toNat).length=0 then { l with mail:=mDel (mPut l.mail p ((l.list p).eraseIdx i.toNat)) p } else { l with mail:=mPut l.mail p ((l.list p).eraseIdx i.toNat) }
def LnkM.drop(l:LnkM)(p:PrM)(i:Int):LnkM×Int:=if l.find p i=none then (l,4) else (l.without p i,0)
def LnkM.double(l:LnkM)(p:PrM)(i:Int):LnkM×Int:=match l.find p i with
 | none=>(l,4)
 | some t=>(l.send p t,l.sendE p t)
end Cl
namespace Cl
open Go Vg T Api
attribute [local irreducible] VO VC VA
abbrev sloT:TypeId:=295
abbrev outT':TypeId:=156
def outC(o:OutM):List Value:=[.int .i64 o.kind,.int .i64 o.reason,.int .i64 o.res.code,.string o.res.value,.int .i64 o.res.version,.int .i64 o.res.at_]
def outZ':OutM:=⟨0,0,⟨0,⟨#[]⟩,0,0⟩⟩
def sloC(d k s:Int)(o:OutM):List Value:=[.bool true,.int .u32 d,.int .i32 k,.int .u32 0,.int .u32 s]++outC o
def sloM:Option OutM→List Value
 | none=>sloC 0 0 0 outZ'
 | some o=>sloC 1 0 1 o
theorem snew_spec:Tri Tryz.prog 151 [] Fr w [] (fun v L=>∃p,v=.pointer (some ⟨p,0,none⟩)∧L=[pt p (sloM none) sloT]):=by
 refine TF 3 Tryz.func151 rfl ym tabOk rfl rfl ?_
 refine xjp ?_
 refine VG (VI (LB (pv:=[(0,.bool true)]) (sloM none) rfl rfl rfl ym rfl) ?_)
 refine VG (VB (vs:=sloM none) rfl fun q=>?_)
 refine xjp ?_
 exact CR (Ret.tmp 0 rfl rfl ER ⟨q,rfl,rfl⟩)
theorem snone_spec{p:Nat}{d k s:Int}{o:OutM}(h:Blk Fr w p (sloC d k s o)):Tri Tryz.prog 202 [.pointer (some ⟨p,0,none⟩)] Fr w [] (fun v L=>v=.bool false∧L=[]):=by
 refine TF 12 Tryz.func202 rfl ym tabOk rfl rfl ?_
 refine xjq ?_
 refine xez ?_
 refine xjr ?_
 exact xfa
section
variable {X:Cx} {e:Env} {L:List HP}
theorem OpT.aLoadK{k:IntKind}{f:FuncId}{fn:Func}{x:Operand}{tys:Array TypeId}{b off:Nat}{n:Int}(h:Ext X.P f fn (Extern.Atomic.loadT (.int k)))(hx:ev e x=some (.pointer (some ⟨b,off,none⟩)))
  (hr:∀w,St X L w→w.cell? ⟨b,off,none⟩=some (.int k n)):OpT X (.call ⟨.value (.func f),#[x],tys⟩) e L (fun v L'=>v=.int k n∧L'=L):=fun a w ha hw dst ty pos after guard=>by
 refine .inl ⟨_,w,L,?_,⟨rfl,rfl⟩,hw⟩
 rw[exec_call]
 have:(#[x]:Array Operand).map a.eval=#[.pointer (some ⟨b,off,none⟩)]:=by simp[ha.ev hx]
 rw[this]
 exact run_call_load h.at_ h.nm h.nb h.nn k h.ex (hr w hw)
theorem OpT.aStoreK{k:IntKind}{f:FuncId}{fn:Func}{x y:Operand}{tys:Array TypeId}{b off t:Nat}{m:Int}{u:Value}{cs:List Value}(i:Nat)(h:Ext X.P f fn Extern.Atomic.storeT)(hx:ev e x=some (.pointer (some ⟨b,off,none⟩)))
  (hy:ev e y=some (.int k m)) (hL:L[i]?=some (pt b cs t)) (hc:cs[off]?=some u):
  OpT X (.call ⟨.value (.func f),#[x,y],tys⟩) e L (fun v L'=>v=.tuple #[]∧L'=L.set i (pt b (cs.set off (.int k m)) t)):=fun a w ha hw dst ty pos after guard=>by
 obtain⟨h0,_⟩:=hw.atPt hL
 refine .inl ⟨_,_,_,?_,⟨rfl,rfl⟩,hw.set hL⟩
 rw[exec_call]
 have:(#[x,y]:Array Operand).map a.eval=#[.pointer (some ⟨b,off,none⟩),.int k m]:=by simp[ha.ev hx,ha.ev hy]
 rw[this,←setCell_setBlk h0]
 exact run_call_store h.at_ h.nm h.nb h.nn h.ex (by rw[cell_of_row w b off cs.toArray t (0,0) h0];simpa using hc) (frozen_of_row w b off cs.toArray t h0)
end
theorem ext_load32:Ext Tryz.prog 257 Tryz.f257 (Extern.Atomic.loadT (.int .u32)):=⟨Tryz.func257,by kernel_rfl,by kernel_rfl,by kernel_rfl,by kernel_rfl⟩
theorem ext_store32:Ext Tryz.prog 299 Tryz.f299 Extern.Atomic.storeT:=⟨Tryz.func299,by kernel_rfl,by kernel_rfl,by kernel_rfl,by kernel_rfl⟩
theorem aload_spec{p off:Nat}{cs:List Value}{n:Int}(h:Blk Fr w p cs)(hn:cs[off]?=some (.int .u32 n)):Tri Tryz.prog 203 [.pointer (some ⟨p,off,none⟩)] Fr w [] (fun v L=>v=.bool (n != 0)∧L=[]):=by
 obtain⟨hf,t,fz,ht⟩:=h
 refine TF 8 Tryz.func203 rfl ym tabOk rfl rfl ?_
 refine xjp ?_
 refine VG (VO.op1 (v:=.int .u32 n) (OpT.aLoadK (X:=⟨Tryz.prog,tab,tabOk,8,Fr,w⟩) ext_load32 rfl (fun w' hw=>?_)) ?_)
 ·have hb:w'.heap[p]?=some (.cells cs.toArray t fz):=(hw.keep.block p hf).trans ht
  have:=cell_of_row w' p off cs.toArray t fz hb
  rw[this];simpa using hn
 refine xjp ?_
 exact xfa
theorem b32_spec(b:Bool):Tri Tryz.prog 300 [.bool b] Fr w [] (fun v L=>v=.int .u32 (if b then 1 else 0)∧L=[]):=by
 refine TF 4 Tryz.func300 rfl ym tabOk rfl rfl ?_
 refine xjp ?_
 refine CC rfl (fun h=>?_) (fun h=>CK ?_)
 ·subst h
  refine xjp ?_
  exact xfa
 ·subst h
  refine xjp ?_
  exact xfa
theorem astore_spec{p off:Nat}{T:TypeId}{cs:List Value}{u:Value}(b:Bool)(hu:cs[off]?=some u):Tri Tryz.prog 295 [.pointer (some ⟨p,off,none⟩),.bool b] Fr w [pt p cs T] (fun v L=>v=.tuple #[]∧L=[pt p (cs.set off (.int .u32 (if b then 1 else 0))) T]):=by
 refine TF 10 Tryz.func295 rfl ym tabOk rfl rfl ?_
 refine CD (ts 0 4 (.only 4 (.only 5 .nil))) ym yr ?_
 refine xjs ?_
 refine AG (AR (fun Fr w hF hs hS=>b32_spec Fr w b) rfl rfl yu ?_)
 refine AG (AO (OpT.aStoreK (k:=.u32) 0 ext_store32 rfl rfl rfl hu) rfl (fun v L' g=>by obtain⟨rfl,rfl⟩:=g;exact yu) ?_)
 rintro _ _ ⟨rfl,rfl⟩
 refine xjs ?_
 exact xes
theorem sget_spec{p:Nat}(o:Option OutM)(h:Blk Fr w p (sloM o)):Tri Tryz.prog 135 [.pointer (some ⟨p,0,none⟩)] Fr w [] (fun v L=>v=.tuple #[.agg (outC (o.getD outZ')).toArray,.bool o.isSome]∧L=[]):=by
 refine TF 18 Tryz.func135 rfl ym tabOk rfl rfl ?_
 refine CS (CG (VG (VO.alloc rfl fun b2=>?_)))
 refine xjq ?_
 cases o with
 | none=>
  refine VG (VV (fun Fr w hF hw _=>snone_spec Fr w (d:=0) (k:=0) (s:=0) (o:=outZ') (h.of hF hw)) rfl ?_)
  refine xjq ?_
  refine VG (VY 6 false rfl rfl ?_)
  refine xjq ?_
  refine VG (VV (fun Fr w hF hw _=>aload_spec Fr w (h.of hF hw) rfl) rfl ?_)
  refine zos ?_
  refine VG (VI (LB (pv:=[]) (outC outZ') rfl rfl rfl ym rfl) ?_)
  refine xjt ?_
  refine xjq ?_
  exact xju
 | some o=>
  refine VG (VV (fun Fr w hF hw _=>snone_spec Fr w (d:=1) (k:=0) (s:=1) (o:=o) (h.of hF hw)) rfl ?_)
  refine xjq ?_
  refine VG (VY 6 false rfl rfl ?_)
  refine xjq ?_
  refine VG (VV (fun Fr w hF hw _=>aload_spec Fr w (h.of hF hw) rfl) rfl ?_)
  refine zop ?_
  refine xjq ?_
  refine VG (VO.load rfl rfl (RdL.blkA (ds:=outC o) h rfl) ?_)
  refine VG (VT (vs:=outC o) (cs':=outC o) 0 rfl rfl rfl rfl (NR _) rfl rfl rfl ?_)
  refine xjq ?_
  exact CR (Ret.cellTmp 2 3 rfl rfl rfl (RdL.many (ds:=outC o) 0 rfl rfl) rfl Imp.nil.ent ⟨rfl,rfl⟩)
theorem set1_spec{p b2 b3 b5:Nat}{o o0:OutM}{d k:Int}:Tri Tryz.prog 294 [.pointer (some ⟨b3,0,none⟩),.pointer (some ⟨b2,0,none⟩),.pointer (some ⟨b5,0,none⟩)] Fr w
  [pt p (sloC d k 0 o0) sloT,pt b2 [.pointer (some ⟨p,0,none⟩)] 119,pt b3 (outC o) outT',pt b5 [.bool false] 4]
  (fun v L=>v=.tuple #[]∧L=[pt p (sloC d k 1 o) sloT,pt b2 [.pointer (some ⟨p,0,none⟩)] 119,pt b3 (outC o) outT',pt b5 [.bool true] 4]):=by
 refine TF 11 Tryz.func294 rfl ym tabOk rfl rfl ?_
 refine xgs ?_
 refine VG (VL 2 (outC o) rfl rfl rfl rfl ?_)
 refine VG (VT (vs:=outC o) (cs':=sloC d k 0 o) 0 rfl rfl rfl rfl (NR _) rfl rfl rfl ?_)
 refine xjp ?_
 refine xgk ?_
 refine xjp ?_
 refine VG (VK (Lc:=[pt p (sloC d k 0 o) sloT]) (fun Fr w hF hw _=>astore_spec Fr w (off:=4) true rfl) rfl rfl ?_)
 rintro _ _ ⟨rfl,rfl⟩
 refine xjp ?_
 refine VG (VO.st 3 (cs':=[.bool true]) rfl rfl rfl rfl Nat.zero_lt_one rfl rfl ?_)
 refine xjp ?_
 exact xes
end Cl
namespace Cl
open Go Vg T Api
theorem race_off(w:World):(callFunc 306 #[]).run Tryz.prog w=.ok (.value (.tuple #[])) w:=run_call_mark0 Tryz.func306 ym ym ym .disable ym w
theorem race_on(w:World):(callFunc 308 #[]).run Tryz.prog w=.ok (.value (.tuple #[])) w:=run_call_mark0 Tryz.func308 ym ym ym .enable ym w
theorem race_acq(a:Addr)(w:World):(callFunc 309 #[.pointer (some a)]).run Tryz.prog w=.ok (.value (.tuple #[])) w:=run_call_marked Tryz.func309 ym ym ym .acquire ym a w
theorem race_rel(a:Addr)(w:World):(callFunc 311 #[.pointer (some a)]).run Tryz.prog w=.ok (.value (.tuple #[])) w:=run_call_marked Tryz.func311 ym ym ym .releaseMerge ym a w
theorem store_late(a:Addr)(x:Value)(u:FrameMode)(w:World)(hc:w.cell? a=some x)(hz:w.frozen? a=false):
  CallsD Tryz.prog 295 #[.pointer (some a),.bool true] u w fun e u' w'=>u'=u∧(e=.returned (.tuple #[])∧w'=w.drew.setCell a (.int .u32 1)):=by
 have hc':w.drew.cell? a=some x:=by go_simp
 have hz':w.drew.frozen? a=false:=by go_simp
 have hst:=run_call_store (P:=Tryz.prog) Tryz.func299 ym ym ym ym (k:=.u32) (y:=1) hc' hz'
 go_enter_d Tryz.func295,Tryz.ntmps295
 go_wp2
 go_region_calls
 all_goals (go_end0;exact⟨rfl,rfl⟩)
theorem unlock_late(a:Addr)(u:FrameMode)(w:World)(hc:w.cell? a=some (.int .i32 1))(hz:w.frozen? a=false):
  CallsD Tryz.prog 303 #[.pointer (some a)] u w fun e u' w'=>u'=u∧(e=.returned (.tuple #[])∧w'=w.setCell a (.int .i32 0)):=by
 have hd:=race_off
 have he:=race_on
 have hr:=race_rel
 have hadd:=run_call_add (P:=Tryz.prog) Tryz.func312 ym ym ym .i32 ym (y:=-1) (s:=0) hc hz (by simp[go_sem];rfl)
 have hcv:=run_convert_to_unsafe (P:=Tryz.prog) (src:=377) (dst:=381) Tryz.underlying377 Tryz.underlying381 ym hc
 go_enter_d Tryz.func303,Tryz.ntmps303
 go_wp2
 go_end0
 go_wp2
 go_end0
 exact⟨rfl,rfl⟩
theorem lock_free(a:Addr)(w:World)(hc:w.cell? a=some (.int .i32 0))(hz:w.frozen? a=false):
  Calls Tryz.prog 302 #[.pointer (some a)] w fun e w'=>e=.returned (.tuple #[])∧w'=w.setCell a (.int .i32 1):=by
 have hd:=race_off
 have he:=race_on
 have ha:=race_acq
 have hcas:=run_call_cas_hit (P:=Tryz.prog) Tryz.func307 ym ym ym .i32 ym (y:=1) hc hz
 have hc':(w.setCell a (.int .i32 1)).cell? a=some (.int .i32 1):=World.cell?_setCell_same w a _ hc
 have hcv:=run_convert_to_unsafe (P:=Tryz.prog) (src:=377) (dst:=381) Tryz.underlying377 Tryz.underlying381 ym hc'
 go_enter Tryz.func302,Tryz.ntmps302
 go_wp2
 first | go_end0 | (simp only[Exit.inBlock,Exit.then];refine bodyPost_ret (results_none rfl _ _ _) rfl ?_) | refine bodyPost_ret (results_none rfl _ _ _) rfl ?_
 go_wp2
 go_end0
 exact⟨rfl,rfl⟩
end Cl
namespace Cl
open Go Vg T Api
abbrev spT:TypeId:=119
def setL(p b2 b3 b5:Nat)(d k s:Int)(o0 o:OutM)(f:Bool):List HP:=[pt p (sloC d k s o0) sloT,pt b2 [.pointer (some ⟨p,0,none⟩)] spT,pt b3 (outC o) outT',pt b5 [.bool f] 4]
theorem sat_cell{Fr:Nat→Prop}{L:List HP}{w:World}{b t:Nat}{cs:List Value}(h:Sat Fr (pt b cs t::L) w):w.heap[b]?=some (.cells cs.toArray t (0,0))∧¬Fr b:=by
 obtain⟨F,⟨i,G,rfl,⟨rfl,hi⟩,hG⟩,hn,hb⟩:=h
 exact⟨hi,(hb b yf).1⟩
theorem sat_set{Fr:Nat→Prop}{L:List HP}{w:World}{b t off:Nat}{cs:List Value}{v:Value}(hlow:∀x,Fr x→x<w.heap.size)(h:Sat Fr (pt b cs t::L) w):
  Sat Fr (pt b (cs.set off v) t::L) (w.setCell ⟨b,off,none⟩ v)∧Keep Fr w (w.setCell ⟨b,off,none⟩ v):=by
 obtain⟨h0,hf⟩:=sat_cell h
 have hst:St (X:=⟨Tryz.prog,tab,tabOk,0,Fr,w⟩) (pt b cs t::L) w:=⟨h,Keep.refl _ _,hlow⟩
 have:=hst.set (i:=0) (cs':=cs.set off v) rfl
 rw[←setCell_setBlk h0] at this
 exact⟨this.sat,this.keep⟩
theorem keep_low{Fr:Nat→Prop}{w w':World}(hlow:∀x,Fr x→x<w.heap.size)(h:Keep Fr w w'):∀x,Fr x→x<w'.heap.size:=fun x hx=>Nat.lt_of_lt_of_le (hlow x hx) h.size
theorem cell_at{w:World}{b t off:Nat}{cs:List Value}{v:Value}(h:w.heap[b]?=some (.cells cs.toArray t (0,0)))(hv:cs[off]?=some v):w.cell? ⟨b,off,none⟩=some v:=by
 rw[cell_of_row w b off cs.toArray t (0,0) h];simpa using hv
theorem frozen_at{w:World}{b t off:Nat}{cs:List Value}(h:w.heap[b]?=some (.cells cs.toArray t (0,0))):w.frozen? ⟨b,off,none⟩=false:=frozen_of_row w b off cs.toArray t h
theorem doslow_spec{p b2 b3 b5:Nat}{o0 o:OutM}:Tri Tryz.prog 298 [.pointer (some ⟨p,1,none⟩),fnV 294 [] [.pointer (some ⟨b3,0,none⟩),.pointer (some ⟨b2,0,none⟩),.pointer (some ⟨b5,0,none⟩)]] Fr w
  (setL p b2 b3 b5 0 0 0 o0 o false) (fun v L=>v=.tuple #[]∧L=setL p b2 b3 b5 1 0 1 o o true):=by
 refine⟨⟨_,Tryz.func298,by kernel_rfl,by kernel_rfl⟩,fun hlow hsat=>?_⟩
 show Calls _ _ #[.pointer (some ⟨p,1,none⟩),.func (.func 294) #[] #[.pointer (some ⟨b3,0,none⟩),.pointer (some ⟨b2,0,none⟩),.pointer (some ⟨b5,0,none⟩)]] w _
 obtain⟨h0,hf⟩:=sat_cell hsat
 obtain⟨hs1,hk1⟩:=sat_set (off:=2) (v:=.int .i32 1) hlow hsat
 have hlow1:=keep_low hlow hk1
 have hs1':Sat Fr (setL p b2 b3 b5 0 1 0 o0 o false) (w.setCell ⟨p,2,none⟩ (.int .i32 1)):=hs1
 have hset:=(set1_spec Fr (w.setCell ⟨p,2,none⟩ (.int .i32 1)) (p:=p) (b2:=b2) (b3:=b3) (b5:=b5) (o:=o) (o0:=o0) (d:=0) (k:=1)).calls hlow1 hs1'
 have h01:=(sat_cell hs1).1
 have hl:=run_call_load (P:=Tryz.prog) Tryz.func257 ym ym ym .u32 ym (w:=w.setCell ⟨p,2,none⟩ (.int .i32 1)) (a:=⟨p,1,none⟩) (x:=0) (cell_at h01 rfl)
 have hnot:∀(x:Bool) (w:World),(Op.unary .not (.bool x)).run Tryz.prog w=.ok (.bool (!x)) w:=fun _ _=>rfl
 go_enter_defers Tryz.func298,Tryz.ntmps298
 go_wp2_with (go_at_call 302;refine(lock_free ⟨p,2,none⟩ _ (cell_at h0 rfl) (frozen_at h0)).mono ?_;rintro e w' ⟨rfl,rfl⟩)
 go_wp2_with (first | (go_at_call 294;refine hset.mono ?_;rintro e w' ⟨v,L',rfl,⟨rfl,rfl⟩,hs2,hk2⟩) | (go_at_call 203;go_in))
 have hs2':Sat Fr (pt p (sloC 0 1 1 o) sloT :: [pt b2 [.pointer (some ⟨p,0,none⟩)] spT,pt b3 (outC o) outT',pt b5 [.bool true] 4]) w':=hs2
 have hlow2:=keep_low hlow1 hk2
 have h02:=(sat_cell hs2').1
 have hs3:Sat Fr (pt p (sloC 0 1 1 o) sloT :: [pt b2 [.pointer (some ⟨p,0,none⟩)] spT,pt b3 (outC o) outT',pt b5 [.bool true] 4]) w'.drew:=hs2'.heap rfl
 have hk3:Keep Fr w' w'.drew:=Keep.drew _ _
 obtain⟨hs4,hk4⟩:=sat_set (off:=1) (v:=.int .u32 1) (keep_low hlow2 hk3) hs3
 have h04:=(sat_cell hs4).1
 obtain⟨hs5,hk5⟩:=sat_set (off:=2) (v:=.int .i32 0) (keep_low (keep_low hlow2 hk3) hk4) hs4
 refine leaves_cons (f:=295) (args:=#[.pointer (some ⟨p,1,none⟩),.bool true]) yf (by simp[go_sem]) ?_
 refine(store_late ⟨p,1,none⟩ (.int .u32 0) .returning _ (cell_at h02 rfl) (frozen_at h02)).mono ?_
 rintro e u' w'' ⟨rfl,rfl,rfl⟩
 refine leaves_cons (f:=303) (args:=#[.pointer (some ⟨p,2,none⟩)]) (by simp[settle]) (by simp[go_sem]) ?_
 refine(unlock_late ⟨p,2,none⟩ _ _ (cell_at h04 rfl) (frozen_at h04)).mono ?_
 rintro e u' w'' ⟨rfl,rfl,rfl⟩
 have hres:∃v L',Ending.returned (.tuple #[])=Ending.returned v∧(v=.tuple #[]∧L'=setL p b2 b3 b5 1 0 1 o o true)∧Sat Fr L' ((w'.drew.setCell ⟨p,1,none⟩ (.int .u32 1)).setCell ⟨p,2,none⟩ (.int .i32 0))∧Keep Fr w ((w'.drew.setCell ⟨p,1,none⟩ (.int .u32 1)).setCell ⟨p,2,none⟩ (.int .i32 0)):=
  ⟨_,_,rfl,⟨rfl,rfl⟩,hs5,(((hk1.trans hk2).trans hk3).trans hk4).trans hk5⟩
 simpa[Leaves,settle,results,Tryz.results298] using hres
end Cl
namespace Vg
open Go
section
variable {X:Cx} {e:Env} {L:List HP}
theorem light_strAt{T:TypeId}{x y:Operand}{s:ByteArray}{b:UInt8}{k:IntKind}{j:Int}{tt:TI}(i:Nat)(hx:ev e x=some (.string s))(hy:ev e y=some (.int k j))(hT:tyLook X.tab T=some tt)(hu:tt.und=.string)
  (hj:j=i) (hb:s.data.toList[i]?=some b):Light X (.index T x y) e (.int .u8 (b.toNat:Int)):=by
 intro a ha dst ty pos after guard w
 have hund:=und_string (X.ok.look hT) hu
 subst hj
 have hb2:s[i]?=some b:=by
  have:s.data[i]?=some b:=by simpa using hb
  obtain⟨h1,h2⟩:=Array.getElem?_eq_some_iff.1 this
  rw[getElem?_pos s i h1]
  exact congrArg some h2
 simp[execOp,ha.ev hx,ha.ev hy,Instr.index,asIntOf,run_underlying hund,hb2]
end
end Vg
namespace Vg
open Go
section
variable {α:Type} {c:α→List Value} {n:Nat}
def fromA(a:Option Addr)(cap lo sz:Nat):Option Addr:=a.map fun q=>if cap=lo then q else q.add (lo*sz)
theorem light_from{X:Cx}{e:Env}{T:TypeId}{x y:Operand}{tt te:TI}{el len cap:Nat}{a:Option Addr}{k:IntKind}{j:Int}(lo:Nat)(hx:ev e x=some (.slice a len cap))(hy:ev e y=some (.int k j))
  (hT:tyLook X.tab T=some tt) (hu:tt.und=.slice el) (hE:tyLook X.tab el=some te) (hlo:j=lo) (h1:lo≤len) (h2:len≤cap):
  Light X (.slice T x (some y) none none) e (.slice (fromA a cap lo te.size) (len-lo) (cap-lo)):=by
 intro ac hac dst ty pos after guard w
 have hd:=und_slice (X.ok.look hT) hu
 obtain⟨i2,hi2,hs2,_,_⟩:=(X.ok.look hE).info'
 subst hlo
 cases a with
 | none=>simp[execOp,hac.ev hx,hac.ev hy,Instr.sliceAt,Instr.slice,Instr.sliceBounds,Instr.sliceBound,asIntOf,run_underlying hd,h1,h2,run_size hi2,fromA]
 | some a=>
  by_cases h:cap=lo
  ·subst h
   simp[execOp,hac.ev hx,hac.ev hy,Instr.sliceAt,Instr.slice,Instr.sliceBounds,Instr.sliceBound,asIntOf,run_underlying hd,h1,h2,run_size hi2,fromA]
  ·simp[execOp,hac.ev hx,hac.ev hy,Instr.sliceAt,Instr.slice,Instr.sliceBounds,Instr.sliceBound,asIntOf,run_underlying hd,h1,h2,run_size hi2,fromA,hs2,h]
end
end Vg
namespace Vg
open Go
section
variable {X:Cx} {e:Env}
theorem light_sFrom{T:TypeId}{x y:Operand}{tt:TI}{s:ByteArray}{k:IntKind}{j:Int}(lo:Nat)(hx:ev e x=some (.string s))(hy:ev e y=some (.int k j))
  (hT:tyLook X.tab T=some tt) (hu:tt.und=.string) (hj:j=lo) (hl:lo≤s.size):Light X (.slice T x (some y) none none) e (.string (s.extract lo s.size)):=by
 intro a ha dst ty pos after guard w
 have hd:=und_string (X.ok.look hT) hu
 subst hj
 simp[execOp,ha.ev hx,ha.ev hy,Instr.sliceAt,Instr.slice,Instr.sliceBounds,Instr.sliceBound,asIntOf,run_underlying hd,hl]
theorem light_sTo{T:TypeId}{x y:Operand}{tt:TI}{s:ByteArray}{k:IntKind}{j:Int}(hi:Nat)(hx:ev e x=some (.string s))(hy:ev e y=some (.int k j))
  (hT:tyLook X.tab T=some tt) (hu:tt.und=.string) (hj:j=hi) (hl:hi≤s.size):Light X (.slice T x none (some y) none) e (.string (s.extract 0 hi)):=by
 intro a ha dst ty pos after guard w
 have hd:=und_string (X.ok.look hT) hu
 subst hj
 simp[execOp,ha.ev hx,ha.ev hy,Instr.sliceAt,Instr.slice,Instr.sliceBounds,Instr.sliceBound,asIntOf,run_underlying hd,hl]
theorem light_shlK{xt yt:TypeId}{x y:Operand}{a n:Nat}{k j:IntKind}(z:Int)(hx:ev e x=some (.int j (a:Int)))(hy:ev e y=some (.int k (n:Int)))(hn:n≤j.bits)(hz:j.wrap (((a*2 ^ n:Nat)):Int)=z):Light X (.binOp .shl xt x y yt) e (.int j z):=by
 intro a' ha dst ty pos after guard w
 have h8:min ((n:Int).toNat) j.bits=n:=Nat.min_eq_left hn
 have h2:(a:Int)*2 ^ n=((a*2 ^ n:Nat):Int):=by simp
 have h:Op.shift .shl j (a:Int) k (n:Int)=pure (.int j z):=by
  unfold Op.shift
  rw[if_neg yd,h8]
  simp only[h2]
  rw[hz]
 simp only[execOp,ha.ev hx,ha.ev hy]
 show((do eqGuard .shl xt x y (.int j a) (.int k n);Op.shift .shl j a k n:Sem Value) >>= fun v=>pure (Next.value v)).run X.P w=_
 rw[h];rfl
theorem light_shrK{xt yt:TypeId}{x y:Operand}{a n:Nat}{k j:IntKind}(hx:ev e x=some (.int j (a:Int)))(hy:ev e y=some (.int k (n:Int)))(hn:n≤j.bits):Light X (.binOp .shr xt x y yt) e (.int j ((a / 2 ^ n:Nat):Int)):=by
 intro a' ha dst ty pos after guard w
 have h8:min ((n:Int).toNat) j.bits=n:=Nat.min_eq_left hn
 have h2:((2:Int) ^ n)=((2 ^ n:Nat):Int):=by simp
 have hd:(a:Int).fdiv (2 ^ n)=((a / 2 ^ n:Nat):Int):=by
  rw[h2,Int.fdiv_eq_ediv_of_nonneg _ (Int.natCast_nonneg _)];rfl
 have h:Op.shift .shr j (a:Int) k (n:Int)=pure (.int j ((a / 2 ^ n:Nat):Int)):=by
  unfold Op.shift
  rw[if_neg yd,h8]
  simp only[hd]
 simp only[execOp,ha.ev hx,ha.ev hy]
 show((do eqGuard .shr xt x y (.int j a) (.int k n);Op.shift .shr j a k n:Sem Value) >>= fun v=>pure (Next.value v)).run X.P w=_
 rw[h];rfl
theorem wrap_u64{n:Int}(h0:0≤n)(h1:n<18446744073709551616):IntKind.u64.wrap n=n:=by
 simp[IntKind.wrap,IntKind.bits,IntKind.signed];omega
theorem light_or64{xt yt:TypeId}{x y:Operand}{a b:Nat}(hx:ev e x=some (.int .u64 (a:Int)))(hy:ev e y=some (.int .u64 (b:Int)))(ha:a<18446744073709551616)(hb:b<18446744073709551616):Light X (.binOp .or xt x y yt) e (.int .u64 ((a ||| b:Nat):Int)):=by
 intro a' hag dst ty pos after guard w
 have hlt:a ||| b<18446744073709551616:=by
  have:a ||| b<2 ^ 64:=Nat.or_lt_two_pow (by simpa using ha) (by simpa using hb)
  simpa using this
 have f1:∀c:Nat,c<18446744073709551616→(BitVec.ofInt 64 (c:Int)).toNat=c:=fun c hc=>by simp;omega
 have h:Op.intBits .or .u64 (a:Int) (b:Int)=pure (.int .u64 ((a ||| b:Nat):Int)):=by
  have e1:(BitVec.ofInt 64 (a:Int) ||| BitVec.ofInt 64 (b:Int)).toNat=a ||| b:=by rw[BitVec.toNat_or,f1 a ha,f1 b hb]
  have e2:IntKind.u64.wrap ((BitVec.ofInt 64 (a:Int) ||| BitVec.ofInt 64 (b:Int)).toNat:Int)=((a ||| b:Nat):Int):=by rw[e1];exact wrap_u64 yd yd
  show(pure (.int .u64 (IntKind.u64.wrap ((BitVec.ofInt 64 (a:Int) ||| BitVec.ofInt 64 (b:Int)).toNat:Int))):Sem Value)=_
  rw[e2]
 simp only[execOp,hag.ev hx,hag.ev hy]
 show((do eqGuard .or xt x y (.int .u64 a) (.int .u64 b);Op.intBits .or .u64 a b:Sem Value) >>= fun v=>pure (Next.value v)).run X.P w=_
 rw[h];rfl
end
theorem light_slice3{X:Cx}{e:Env}{T:TypeId}{x y z u:Operand}{tt te:TI}{el len cap:Nat}{a:Option Addr}{k k' k'':IntKind}{i j m:Int}(lo hi mx:Nat)(hx:ev e x=some (.slice a len cap))(hy:ev e y=some (.int k i))(hz:ev e z=some (.int k' j))(hw:ev e u=some (.int k'' m))
  (hT:tyLook X.tab T=some tt) (hu:tt.und=.slice el) (hE:tyLook X.tab el=some te) (hlo:i=lo) (hhi:j=hi) (hmx:m=mx) (h1:lo≤hi) (h2:hi≤mx) (h3:mx≤cap):
  Light X (.slice T x (some y) (some z) (some u)) e (.slice (if mx=lo then a else a.map (·.add (lo*te.size))) (hi-lo) (mx-lo)):=by
 intro ac ha dst ty pos after guard w
 have hd:=und_slice (X.ok.look hT) hu
 obtain⟨i2,hi2,hs2,_,_⟩:=(X.ok.look hE).info'
 subst hlo;subst hhi;subst hmx
 simp[execOp,ha.ev hx,ha.ev hy,ha.ev hz,ha.ev hw,Instr.sliceAt,Instr.slice,Instr.sliceBounds,Instr.sliceBound,asIntOf,run_underlying hd,h1,h2,h3,run_size hi2,hs2]
theorem OpT.appendRoom{X:Cx}{e:Env}{L:List HP}{t el esz n cap m g:Nat}{tt te:TI}{x y:Operand}{cs news:List Value}{v:Value}(i:Nat)
  (hx:ev e x=some (.slice (some ⟨g,0,none⟩) n cap)) (hy:ev e y=some v) (hL:L[i]?=some (pt g cs el)) (hT:tyLook X.tab t=some tt) (hu:tt.und=.slice el) (hE:tyLook X.tab el=some te) (hesz:te.size=esz)
  (hr:RdRow X L v esz m news) (h1:news.all Value.oneCell'=true) (hroom:n+m≤cap) (hfit:n*esz+news.length≤cs.length):
  OpT X (.call ⟨.builtin .append,#[x,y],#[t,t]⟩) e L (fun u L'=>u=.slice (some ⟨g,0,none⟩) (n+m) cap∧L'=L.set i (pt g (wrC cs (n*esz) news) el)):=by
 intro ac w ha hw dst ty pos after guard
 have hund:=und_slice (X.ok.look hT) hu
 have hok:=X.ok.look hE
 obtain⟨ti,hi,hsz,hbt,hz⟩:=hok.info'
 have hexec:∀u w',(Builtin.append_ #[t,t] ty #[.slice (some ⟨g,0,none⟩) n cap,v]).run X.P w=.ok u w' →
   (execOp ac.eval ⟨dst,.call ⟨.builtin .append,#[x,y],#[t,t]⟩,ty,pos,after,guard⟩).run X.P w=.ok (.value u) w':=fun u w' h=>by
  simp[execOp,resolve,invoke,builtin,ha.ev hx,ha.ev hy,h]
 obtain⟨h0,hf⟩:=hw.atPt hL
 obtain⟨hnl,hrd⟩:=hr
 rcases hrd with ⟨d,c,rfl,rfl⟩ | ⟨b,off,c,rfl,hrg⟩
 ·have hn0:news=[]:=List.eq_nil_of_length_eq_zero (by simpa using hnl)
  subst hn0
  refine .inl ⟨_,w,_,hexec _ _ (run_append0 hund hi (some ⟨g,0,none⟩) d n cap c yd ty),⟨rfl,rfl⟩,?_⟩
  rw[wrC_nil]
  have hset:L.set i (pt g cs el)=L:=by
   refine List.ext_getElem? fun j=>?_
   by_cases e:i=j
   ·subst e;rw[List.getElem?_set_self (List.getElem?_eq_some_iff.1 hL).1,hL]
   ·rw[List.getElem?_set_ne e]
  rw[hset];exact hw
 ·have hnews:∀j u,news[j]?=some u→w.cell? ((⟨b,off,none⟩:Addr).add j)=some u:=fun j u hj=>by rw[Addr.add_mid];exact hrg w hw j u hj
  have h1':∀u∈news,u.oneCell'=true:=List.all_eq_true.1 h1
  have hrun:=run_append_room (P:=X.P) w t ty el ti hund hi g n cap _ h0 ⟨b,off,none⟩ m c news (by rw[hsz,hesz];exact hnl) hnews h1' hroom (by rw[hsz,hesz];simpa using hfit)
  have e2:cs.toArray.toList.take (n*ti.size)++news++cs.toArray.toList.drop (n*ti.size+news.length)=wrC cs (n*esz) news:=by rw[hsz,hesz];rfl
  rw[e2] at hrun
  have e3:w.setRow g (wrC cs (n*esz) news).toArray=setBlk w g (.cells (wrC cs (n*esz) news).toArray el (0,0)):=by
   unfold World.setRow setBlk
   have hlt:=(Array.getElem?_eq_some_iff.1 h0).1
   refine congrArg (fun h=>({ w with heap:=h }:World)) (Array.ext_getElem? fun j=>?_)
   rw[Array.getElem?_modify,Array.getElem?_setIfInBounds]
   by_cases e:g=j
   ·subst e;rw[if_pos rfl,if_pos rfl,if_pos hlt,h0];rfl
   ·rw[if_neg e,if_neg e]
  rw[e3] at hrun
  exact .inl ⟨_,_,_,hexec _ _ hrun,⟨rfl,rfl⟩,hw.set hL⟩
section
variable {α:Type} {c:α→List Value} {n:Nat}
theorem erase_eq(l:List α)(i:Nat):l.eraseIdx i=l.take i++l.drop (i+1):=List.eraseIdx_eq_take_drop_succ l i
theorem del_wr(h:∀a,(c a).length=n){l:List α}{i:Nat}(hi:i<l.length)(rest:List Value):∃z,z.length=n∧wrC (flat c l++rest) (i*n) (flat c (l.drop (i+1)))=flat c (l.eraseIdx i)++(z++rest):=by
 obtain⟨x,hx⟩:∃x,l[i]?=some x:=⟨_,GE hi⟩
 have hd:l.drop i=x::l.drop (i+1):=by
  obtain⟨h1,h2⟩:=List.getElem?_eq_some_iff.1 hx
  rw[List.drop_eq_getElem_cons h1,h2]
 have hl:flat c l=flat c (l.take i)++(c x++flat c (l.drop (i+1))):=by rw[←flat_cons,←hd,←flat_append,List.take_append_drop]
 have ha:(flat c (l.take i)).length=i*n:=by rw[flat_len h,List.length_take];congr 1;omega
 refine⟨(c x++flat c (l.drop (i+1))).drop (flat c (l.drop (i+1))).length,by rw[List.length_drop,List.length_append,h];omega,?_⟩
 rw[erase_eq,flat_append,hl]
 generalize flat c (l.take i)=A at ha
 generalize flat c (l.drop (i+1))=D
 unfold wrC
 have e1:(A++(c x++D)++rest).take (i*n)=A:=by rw[List.append_assoc];exact List.take_left' ha
 have e2:(A++(c x++D)++rest).drop (i*n+D.length)=(c x++D).drop D.length++rest:=by
  rw[←ha,←List.drop_drop,List.append_assoc,List.drop_left' rfl,List.drop_append_of_le_length yp]
 rw[e1,e2,List.append_assoc]
theorem wrC_mid{A z zs rest:List Value}{k:Nat}(hA:A.length=k)(hz:zs.length=z.length):wrC (A++(z++rest)) k zs=A++(zs++rest):=by
 unfold wrC
 subst hA
 rw[List.take_left' rfl,List.drop_append,hz]
 simp
end
theorem Imp.slW{L M:List HP}{el esz b n:Nat}{cs:List Value}(hc:cs.length=n*esz)(h:Imp L (pt b cs el::M)):Imp L (slH el esz (some ⟨b,0,none⟩) n n cs::M):=by
 have:=Imp.sl (L:=L) (M:=M) (el:=el) (b:=b) (rest:=[]) (cap:=n) hc (NR _) (by rw[List.append_nil];exact hc) (by rw[List.append_nil];exact h)
 exact this
theorem or_shift{n b:Nat}(hb:b<256):(n*256) ||| b=n*256+b:=by
 have h:n*256=n <<< 8:=by rw[Nat.shiftLeft_eq]
 rw[h,Nat.shiftLeft_add_eq_or_of_lt (by simpa using hb)]
end Vg
namespace Cl
open Go Vg T Api
attribute [local irreducible] VO VC VA
theorem oncedo_spec{p b2 b3 b5:Nat}{o0 o:OutM}:Tri Tryz.prog 293 [.pointer (some ⟨p,1,none⟩),fnV 294 [] [.pointer (some ⟨b3,0,none⟩),.pointer (some ⟨b2,0,none⟩),.pointer (some ⟨b5,0,none⟩)]] Fr w
  (setL p b2 b3 b5 0 0 0 o0 o false) (fun v L=>v=.tuple #[]∧L=setL p b2 b3 b5 1 0 1 o o true):=by
 refine TF 12 Tryz.func293 rfl ym tabOk rfl rfl ?_
 refine xjp ?_
 refine VG (VV (fun Fr w hF hw hS=>aload_spec Fr w (n:=0) (hS.blk 0 rfl) rfl) rfl ?_)
 refine zqj ?_
 refine VG (VK (Lc:=setL p b2 b3 b5 0 0 0 o0 o false) (Lr:=[]) (fun Fr w hF hw _=>doslow_spec Fr w) rfl (List.append_nil _).symm ?_)
 rintro _ _ ⟨rfl,rfl⟩
 refine xjp ?_
 exact Ret.void rfl ER ⟨rfl,List.append_nil _⟩
theorem sset_spec{p:Nat}{o:OutM}(h1:1≤o.kind)(h2:o.kind≤3):Tri Tryz.prog 276 [.pointer (some ⟨p,0,none⟩),.agg (outC o).toArray] Fr w [pt p (sloM none) sloT] (fun v L=>v=.bool true∧L=[pt p (sloM (some o)) sloT]):=by
 refine TF 24 Tryz.func276 rfl ym tabOk rfl rfl ?_
 refine CS (CG (VG (VO.box1 rfl fun b2=>VG (VB (vs:=outC o) rfl fun b3=>VG (VN ?_)))))
 refine xdx ?_
 refine VG (VV (fun Fr w hF hw hS=>snone_spec Fr w (p:=p) (d:=0) (k:=0) (s:=0) (o:=outZ') (hS.blk 2 rfl)) rfl ?_)
 refine xjq ?_
 refine VG (VY 8 false rfl rfl ?_)
 refine xdn ?_
 refine VG (VY 13 false rfl (DF yd) ?_)
 refine xdn ?_
 refine CP (p:=3<o.kind) rfl (fun h=>absurd h yd) (fun h=>CK ?_)
 refine xjq ?_
 refine VG (VO.alloc rfl fun b5=>?_)
 refine VG (VO.st 0 (cs':=[.bool false]) rfl rfl rfl rfl Nat.zero_lt_one rfl rfl ?_)
 refine xdv ?_
 refine VG (VI (light_makeFunc (u:=[]) (v:=[.pointer (some ⟨b3,0,none⟩),.pointer (some ⟨b2,0,none⟩),.pointer (some ⟨b5,0,none⟩)]) rfl rfl) ?_)
 refine VO.ent (L':=setL p b2 b3 b5 0 0 0 outZ' o false) (pkZ [3,2,1,0]).ent ?_
 refine VG (VK (Lc:=setL p b2 b3 b5 0 0 0 outZ' o false) (Lr:=[]) (fun Fr w hF hw _=>oncedo_spec Fr w) rfl (List.append_nil _).symm ?_)
 rintro _ _ ⟨rfl,rfl⟩
 show VO _ _ _ _ _ [pt p (sloC 1 0 1 o) sloT,pt b2 [.pointer (some ⟨p,0,none⟩)] spT,pt b3 (outC o) outT',pt b5 [.bool true] 4] _
 refine xjq ?_
 refine VG (VO.ld 3 rfl rfl rfl rfl ?_)
 refine xjq ?_
 exact CR (Ret.tmp 4 rfl rfl (IP 0 rfl Imp.nil).ent ⟨rfl,rfl⟩)
abbrev bktT:TypeId:=188
def bktC(b:BktM):List Value:=[.int .i64 b.cap,.int .i64 b.refill,.int .i64 b.tokens,.int .i64 b.tick,.int .i64 b.since]
structure BktM.Ok(b:BktM):Prop where
 c0:0≤b.cap
 c1:b.cap≤16
 r0:1≤b.refill
 r1:b.refill≤1099511627776
 t0:0≤b.tokens
 t1:b.tokens≤b.cap
 k0:0≤b.tick
 k1:b.tick≤1099511627776
 s0:0≤b.since
 s1:b.since≤b.tick
theorem BktM.Ok.at(b:BktM)(h:b.Ok)(now:Int):(b.at now).Ok:=by
 have:=h.k0
 have:=h.k1
 have:=h.s1
 exact⟨h.c0,h.c1,h.r0,h.r1,h.t0,h.t1,by show 0≤min (max now b.tick) _;omega,by show min (max now b.tick) _≤_;omega,h.s0,by show b.since≤min (max now b.tick) _;omega⟩
theorem bringN_ok:∀(k:Nat) {b:BktM},b.Ok→(bringN k b).Ok
 | 0,_,h=>h
 | k+1,b,h=>by
  rw[bringN]
  split
  ·rename_i hc
   have:=h.t0
   have:=h.s0
   have:=h.r0
   exact bringN_ok k ⟨h.c0,h.c1,h.r0,h.r1,by show 0≤b.tokens+1;omega,by show b.tokens+1≤b.cap;omega,h.k0,h.k1,by show 0≤b.since+b.refill;omega,hc.2⟩
  ·exact h
theorem BktM.Ok.full{b:BktM}(h:b.Ok):b.full.Ok:=by
 unfold BktM.full
 split
 ·exact⟨h.c0,h.c1,h.r0,h.r1,h.t0,h.t1,h.k0,h.k1,h.k0,Int.le_refl _⟩
 ·exact h
theorem BktM.Ok.bring{b:BktM}(h:b.Ok)(now:Int):(b.bring now).Ok:=(bringN_ok 17 (BktM.Ok.at b h now)).full
theorem BktM.Ok.take{b:BktM}(h:b.Ok)(now:Int):(b.take now).1.Ok:=by
 have k:=h.bring now
 unfold BktM.take
 split
 ·exact k
 ·rename_i hn
  have:=k.t0
  have:=k.t1
  exact⟨k.c0,k.c1,k.r0,k.r1,by show 0≤(b.bring now).tokens-1;omega,by show(b.bring now).tokens-1≤(b.bring now).cap;omega,k.k0,k.k1,k.s0,k.s1⟩
theorem bringN_end{k:Nat}{b:BktM}(h:¬(b.tokens<b.cap∧b.since+b.refill≤b.tick)):bringN k b=b:=by
 cases k with
 | zero=>rfl
 | succ k=>rw[bringN,if_neg h]
section
variable {p:Nat}
theorem bbring_spec{b:BktM}(ok:b.Ok)(now:Int):Tri Tryz.prog 292 [.pointer (some ⟨p,0,none⟩),.int .i64 now] Fr w [pt p (bktC b) bktT] (fun v L=>v=.tuple #[]∧L=[pt p (bktC (b.bring now)) bktT]):=by
 have ok0:=BktM.Ok.at b ok now
 refine TF 73 Tryz.func292 rfl ym tabOk rfl rfl ?_
 refine CS (CG (VG (VO.ld 0 rfl rfl rfl rfl ?_)))
 refine VG (VO.st 0 (cs':=bktC (b.at now)) rfl rfl rfl rfl (by show 3<5;omega) (by show [_,_,_,_,_]=bktC _;unfold bktC BktM.at;congr 4;show Value.int _ _=Value.int _ _;congr 1;dsimp only;repeat' split;all_goals omega) rfl (VG (VN ?_)))
 unfold BktM.bring
 generalize hb0:b.at now=b0 at ok0
 refine CS (VC.meetS (σ:=BktM) (fun _=>[(0,pV p)]) (fun x=>[pt p (bktC x) bktT]) (fun x=>x.Ok∧x=bringN 17 b0) ?_ ?_)
 ·refine VC.block ?_
  refine VC.loop (σ:=Nat×BktM) (fun x=>[(0,pV p)]) (fun x=>[pt p (bktC x.2) bktT]) (fun x=>x.2.Ok∧bringN x.1 x.2=bringN 17 b0∧(x.2.cap-x.2.tokens).toNat≤x.1) (fun x=>x.1) (17,b0)
   ⟨ok0,rfl,by have:=ok0.c1;have:=ok0.t0;dsimp only;omega⟩ sbZ ER ?_
  rintro⟨k,x⟩ ⟨okx,hk,hn⟩
  dsimp only at okx hk hn ⊢
  have:=okx.c0
  have:=okx.c1
  have:=okx.r0
  have:=okx.r1
  have:=okx.t0
  have:=okx.t1
  have:=okx.k0
  have:=okx.k1
  have:=okx.s0
  have:=okx.s1
  have fin:¬(x.tokens<x.cap∧x.since+x.refill≤x.tick)→x=bringN 17 b0:=fun h=>by rw[←hk,bringN_end h]
  refine xjp ?_
  refine CD (ts 0 25 .nil) ym yr ?_
  refine xeu ?_
  by_cases h1:x.tokens<x.cap
  rotate_left
  ·refine AG (AY 23 false rfl (DF h1) ?_)
   refine xeu ?_
   refine VC.condF rfl (CX ?_)
   exact⟨x,⟨okx,fin fun h=>h1 h.1⟩,sbZ,ER⟩
  refine AG (AY 23 true rfl (DT h1) ?_)
  refine xeu ?_
  refine xeo ?_
  refine xeu ?_
  refine CP (p:=x.since+x.refill≤x.tick) rfl (fun h2=>CK ?_) (fun h2=>CX ?_)
  rotate_left
  ·exact⟨x,⟨okx,fin fun h=>h2 h.2⟩,sbZ,ER⟩
  obtain⟨j,rfl⟩:∃j,k=j+1:=⟨k-1,by omega⟩
  rw[bringN,if_pos ⟨h1,h2⟩] at hk
  refine xdf ?_
  refine zok ?_
  refine VG (VO.st 0 (cs':=bktC { x with tokens:=x.tokens+1 }) rfl rfl rfl rfl (by show 2<5;omega) rfl rfl ?_)
  refine xjp ?_
  refine CD (ts 0 11 (.only 11 .nil)) ym yr ?_
  refine xeh ?_
  refine AG (AP rfl rfl rfl ybb ybb ?_)
  refine xeh ?_
  refine AG (VA.st 0 (cs':=bktC { x with tokens:=x.tokens+1,since:=x.since+x.refill }) rfl rfl rfl rfl rfl (by show 4<5;omega) rfl rfl yu ?_)
  refine xjs ?_
  exact⟨(j,{ x with tokens:=x.tokens+1,since:=x.since+x.refill }),⟨⟨okx.c0,okx.c1,okx.r0,okx.r1,by dsimp only;omega,by dsimp only;omega,okx.k0,okx.k1,by dsimp only;omega,h2⟩,hk,by dsimp only;omega⟩,by dsimp only;omega,sbZ,ER⟩
 rintro x ⟨okx,rfl⟩
 generalize bringN 17 b0=x at okx
 unfold BktM.full
 refine xjp ?_
 refine CD (ts 0 9 .nil) ym yr ?_
 refine xeh ?_
 refine CE rfl (fun h3=>?_) (fun h3=>CK ?_)
 ·rw[if_pos h3]
  refine xdf ?_
  refine VG (VO.st 0 (cs':=bktC { x with since:=x.tick }) rfl rfl rfl rfl (by show 4<5;omega) rfl rfl ?_)
  refine xjp ?_
  exact xes
 ·rw[if_neg h3]
  exact xes
theorem bnone_spec{b:BktM}(ok:b.Ok)(h:Blk Fr w p (bktC b)):Tri Tryz.prog 291 [.pointer (some ⟨p,0,none⟩)] Fr w [] (fun v L=>v=.bool false∧L=[]):=by
 have:=ok.r0
 refine TF 12 Tryz.func291 rfl ym tabOk rfl rfl ?_
 refine xjq ?_
 refine xez ?_
 refine xjr ?_
 exact CR (Ret.bool (b:=false) 2 rfl rfl (beq_eq_false_iff_ne.2 yd) ER ⟨rfl,rfl⟩)
theorem btake_spec{b:BktM}(ok:b.Ok)(now:Int):Tri Tryz.prog 238 [.pointer (some ⟨p,0,none⟩),.int .i64 now] Fr w [pt p (bktC b) bktT] (fun v L=>v=.bool (b.take now).2∧L=[pt p (bktC (b.take now).1) bktT]):=by
 have ok1:=ok.bring now
 have:=ok1.t0
 have:=ok1.t1
 have:=ok1.c1
 have left:∀(Fr:Nat→Prop) (w:World),Tri Tryz.prog 275 [.pointer (some ⟨p,0,none⟩),.int .i64 now] Fr w [pt p (bktC b) bktT] (fun v L=>v=.int .i64 (b.bring now).tokens∧L=[pt p (bktC (b.bring now)) bktT]):=by
  intro Fr w
  refine TF 14 Tryz.func275 rfl ym tabOk rfl rfl ?_
  refine xjp ?_
  refine VG (VV (fun Fr w hF hw hS=>bnone_spec Fr w ok (hS.blk 0 rfl)) rfl ?_)
  refine zox ?_
  refine VG (VK (Lc:=[pt p (bktC b) bktT]) (fun Fr w hF hw _=>bbring_spec Fr w ok now) rfl rfl ?_)
  rintro _ _ ⟨rfl,rfl⟩
  refine xjp ?_
  refine xjv ?_
  refine xjp ?_
  exact xjw
 unfold BktM.take
 refine TF 16 Tryz.func238 rfl ym tabOk rfl rfl ?_
 refine xjp ?_
 refine VG (VK (Lc:=[pt p (bktC b) bktT]) (fun Fr w hF hw _=>left Fr w) rfl rfl ?_)
 rintro _ _ ⟨rfl,rfl⟩
 refine xjp ?_
 refine CE rfl (fun h1=>?_) (fun h1=>CK ?_)
 ·rw[if_pos h1]
  refine xjp ?_
  exact xjw
 rw[if_neg h1]
 refine xjp ?_
 refine xjv ?_
 refine zqb ?_
 refine VG (VO.st 0 (cs':=bktC { b.bring now with tokens:=(b.bring now).tokens-1 }) rfl rfl rfl rfl (by show 2<5;omega) rfl rfl ?_)
 refine xjp ?_
 exact xjw
theorem gap_r(t m:Int):0≤gapM t m∧gapM t m≤64:=by
 unfold gapM
 split
 ·omega
 split
 ·omega
 ·have:(0:Int)≤((2 ^ (t-1).toNat:Nat):Int):=Int.natCast_nonneg _
  omega
theorem gap_spec(t m:Int):Tri Tryz.prog 239 [.int .i64 t,.int .i64 m] Fr w [] (fun v L=>v=.int .i64 (gapM t m)∧L=[]):=by
 unfold gapM
 refine TF 18 Tryz.func239 rfl ym tabOk rfl rfl ?_
 refine xjp ?_
 refine CP (p:=t<1) rfl (fun h1=>?_) (fun h1=>CK ?_)
 ·rw[if_pos h1]
  refine xjp ?_
  exact xjw
 rw[if_neg h1]
 refine xjp ?_
 refine CP (p:=7<t) rfl (fun h2=>?_) (fun h2=>CK ?_)
 ·rw[if_pos h2]
  refine xjp ?_
  exact xjx
 rw[if_neg h2]
 refine xjp ?_
 refine xed ?_
 obtain⟨n,hn⟩:∃n:Nat,t-1=n:=⟨(t-1).toNat,by omega⟩
 have hp:2 ^ n≤64:=by
  have:2 ^ n≤2 ^ 6:=Nat.pow_le_pow_right yo yd
  exact this
 rw[hn,Int.toNat_natCast]
 refine VG (VI (light_shlK (a:=1) (n:=n) ((2 ^ n:Nat):Int) rfl rfl (by show n≤64;omega) (by rw[Nat.one_mul];generalize 2 ^ n=m at hp;exact i64_in _ yd yd)) ?_)
 generalize 2 ^ n=m at hp
 refine xjp ?_
 exact xjx
end
end Cl
namespace Cl
open Go Vg T Api Ch
attribute [local irreducible] VO VC VA
def txC(s:ByteArray):List Value:=[.string s]
theorem txC_len(s:ByteArray):(txC s).length=1:=rfl
theorem txC_one(s:ByteArray):(txC s).all Value.oneCell'=true:=rfl
theorem mclone_spec{a:Option Addr}{cap:Nat}{l:List MemM}(h:RwIn memC 2 Fr w a l)(hl:l.length≤1000000):Tri Tryz.prog 256 [.slice a l.length cap] Fr w [] (fun v L=>∃a' cap',v=.slice a' l.length cap'∧L=[slH memT 2 a' l.length cap' (flat memC l)]):=by
 refine xft ?_
 cases a with
 | none=>
  obtain rfl:l=[]:=by
   cases l with
   | nil=>rfl
   | cons x l=>obtain⟨b,o,h1,_⟩:=h.at_ yf;cases h1
  refine zpc ?_
  exact xfq
 | some a=>
  refine zon ?_
  refine CS (CG (VG (VO.buildSlice (n:=0) (pv:=[]) [] rfl rfl rfl rfl yo rfl fun b=>?_)))
  refine xfu ?_
  refine VG (VO.append (m:=l.length) (news:=flat memC l) 0 rfl rfl rfl rfl rfl rfl rfl (RwIn.row memC_len h) (flat_all memC_one _) yaa yd fun a' c' _=>?_)
  rw[Nat.zero_add,List.nil_append]
  refine xdf ?_
  exact xfr
theorem mdelete_spec{a:Option Addr}{cap:Nat}{l:List MemM}{i:Nat}(hi:i<l.length)(hl:l.length≤1000000):Tri Tryz.prog 241 [.slice a l.length cap,.int .i64 (i:Int),.int .i64 ((i:Int)+1)] Fr w [slH memT 2 a l.length cap (flat memC l)]
  (fun v L=>∃a' cap',v=.slice a' (l.eraseIdx i).length cap'∧L=[slH memT 2 a' (l.eraseIdx i).length cap' (flat memC (l.eraseIdx i))]):=by
 have hel:(l.eraseIdx i).length=l.length-1:=by rw[List.length_eraseIdx,if_pos hi]
 refine TF 33 Tryz.func241 rfl ym tabOk rfl rfl ?_
 refine xet ?_
 refine VC.opn 0 rfl (HOpn.sl _ _ _ _ _ _) ?_
 rintro(_ | ⟨sb,rest⟩) ⟨hx1,hx2,hx3⟩
 ·obtain⟨_,h0,_⟩:=hx3
  omega
 obtain⟨rfl,hx4⟩:=hx3
 have hcl:(flat memC l++rest).length=cap*2:=by simpa using hx4
 have hfl:=flat_len memC_len l
 have hcap:l.length≤cap:=by
  rw[List.length_append,hfl] at hcl
  exact Nat.le_of_mul_le_mul_right yd (by decide:0<2)
 obtain⟨z,hz,hwr⟩:=del_wr memC_len hi rest
 have hdl:(l.drop (i+1)).length=l.length-(i+1):=List.length_drop
 have hdf:(flat memC (l.drop (i+1))).length=(l.length-(i+1))*2:=by rw[flat_len memC_len,hdl]
 dsimp only
 refine xjp ?_
 refine xjy ?_
 refine xjp ?_
 refine CE rfl (fun h=>absurd h yd) (fun h=>CK ?_)
 refine xjp ?_
 refine xjz ?_
 refine xjs ?_
 refine AG (AI rfl (light_head i rfl rfl rfl rfl rfl rfl yd) ?_)
 refine xjs ?_
 refine AG (AI rfl (light_from (i+1) rfl rfl rfl rfl rfl rfl yd yd) ?_)
 refine AG (AO (OpT.appendRoom (n:=i) (m:=l.length-(i+1)) (news:=flat memC (l.drop (i+1))) 0 rfl rfl rfl rfl rfl rfl rfl ?_ (flat_all memC_one _) yd ?_) rfl (fun v L' g=>by obtain⟨rfl,rfl⟩:=g;exact yu) ?_)
 ·by_cases hm:l.length=i+1
  ·have e:l.drop (i+1)=[]:=List.eq_nil_of_length_eq_zero yd
   rw[e,show l.length-(i+1)=0 from by omega]
   exact RdRow.nil
  ·have hne:¬cap=i+1:=by omega
   have hfa:fromA (some ⟨sb,0,none⟩) cap (i+1) 2=some ⟨sb,0+(i+1)*2,none⟩:=by unfold fromA;simp[hne,Addr.add_mid]
   show RdRow _ _ (.slice (fromA (some ⟨sb,0,none⟩) cap (i+1) 2) _ _) _ _ _
   rw[hfa]
   refine RdRow.pt 0 rfl ?_ hdf
   show((flat memC l++rest).drop (0+(i+1)*2)).take ((l.length-(i+1))*2)=_
   rw[Nat.zero_add,flat_drop memC_len _ _ _ yd,List.take_left' hdf]
 ·show i*2+(flat memC (l.drop (i+1))).length≤(flat memC l++rest).length
  rw[hdf,List.length_append,hfl,←Nat.add_mul]
  exact Nat.le_trans (Nat.mul_le_mul_right _ yd) (Nat.le_add_right _ _)
 rintro _ _ ⟨rfl,rfl⟩
 rw[show i+(l.length-(i+1))=l.length-1 from by omega]
 show VA _ _ _ _ _ _ [pt sb (wrC (flat memC l++rest) (i*2) (flat memC (l.drop (i+1)))) memT] _
 rw[hwr]
 refine zou ?_
 refine xka ?_
 rw[show l.length-(l.length-1)=1 from by omega]
 have hzz:(memC (0,0)).length=z.length:=by rw[hz];rfl
 refine VG (VO.op1 (L':=[pt sb (flat memC (l.eraseIdx i)++((memC (0,0))++rest)) memT]) ((OpT.clear 0 rfl rfl rfl rfl rfl yo ?_ rfl).mono fun v L' g=>⟨g.1,by
  rw[g.2]
  show [pt sb (wrC (flat memC (l.eraseIdx i)++(z++rest)) (0+(l.length-1)*2) (memC (0,0))) memT]=_
  rw[wrC_mid (by rw[flat_len memC_len,hel];omega) hzz]⟩) ?_)
 ·show 0+(l.length-1)*2+1*2≤(flat memC (l.eraseIdx i)++(z++rest)).length
  rw[List.length_append,List.length_append,flat_len memC_len,hel,hz];omega
 refine xjp ?_
 refine CR (Ret.tmp 6 rfl rfl (L':=[slH memT 2 (some ⟨sb,0,none⟩) (l.length-1) cap (flat memC (l.eraseIdx i))]) (Imp.sl (by rw[flat_len memC_len,hel]) yd ?_ Imp.refl).ent ybg)
 rw[List.length_append,List.length_append,flat_len memC_len,hel,hzz,hz]
 rw[List.length_append,hfl] at hcl
 have:(l.length-1)*2+2=l.length*2:=by rw[←Nat.succ_mul];congr 1;omega
 omega
theorem tclone_spec{a:Option Addr}{cap:Nat}{l:List ByteArray}(h:RwIn txC 1 Fr w a l)(hl:l.length≤1000000):Tri Tryz.prog 145 [.slice a l.length cap] Fr w [] (fun v L=>∃a' cap',v=.slice a' l.length cap'∧L=[slH 9 1 a' l.length cap' (flat txC l)]):=by
 refine TF 8 Tryz.func145 rfl ym tabOk rfl rfl ?_
 cases a with
 | none=>
  obtain rfl:l=[]:=by
   cases l with
   | nil=>rfl
   | cons x l=>obtain⟨b,o,h1,_⟩:=h.at_ yf;cases h1
  refine zpc ?_
  exact xfq
 | some a=>
  refine zon ?_
  refine CS (CG (VG (VO.buildSlice (n:=0) (pv:=[]) [] rfl rfl rfl rfl yo rfl fun b=>?_)))
  refine VO.ent (L':=[slH 9 1 (some ⟨b,0,none⟩) 0 0 []]) (Imp.sl (M:=[]) (cs:=[]) (rest:=[]) rfl (NR _) rfl (Imp.refl (L:=[pt b [] 9]))).ent ?_
  refine VG (VO.append (m:=l.length) (news:=flat txC l) 0 rfl rfl rfl rfl rfl rfl rfl (RwIn.row txC_len h) (flat_all txC_one _) yaa yd fun a' c' _=>?_)
  rw[Nat.zero_add,List.nil_append]
  refine xdf ?_
  exact xfr
theorem tdelete_spec{a:Option Addr}{cap:Nat}{l:List ByteArray}{i:Nat}(hi:i<l.length)(hl:l.length≤1000000):Tri Tryz.prog 181 [.slice a l.length cap,.int .i64 (i:Int),.int .i64 ((i:Int)+1)] Fr w [slH 9 1 a l.length cap (flat txC l)]
  (fun v L=>∃a' cap',v=.slice a' (l.eraseIdx i).length cap'∧L=[slH 9 1 a' (l.eraseIdx i).length cap' (flat txC (l.eraseIdx i))]):=by
 have hel:(l.eraseIdx i).length=l.length-1:=by rw[List.length_eraseIdx,if_pos hi]
 refine TF 33 Tryz.func181 rfl ym tabOk rfl rfl ?_
 refine xet ?_
 refine VC.opn 0 rfl (HOpn.sl _ _ _ _ _ _) ?_
 rintro(_ | ⟨sb,rest⟩) ⟨hx1,hx2,hx3⟩
 ·obtain⟨_,h0,_⟩:=hx3
  omega
 obtain⟨rfl,hx4⟩:=hx3
 have hcl:(flat txC l++rest).length=cap*1:=by simpa using hx4
 have hfl:=flat_len txC_len l
 have hcap:l.length≤cap:=by
  rw[List.length_append,hfl] at hcl
  exact Nat.le_of_mul_le_mul_right yd (by decide:0<1)
 obtain⟨z,hz,hwr⟩:=del_wr txC_len hi rest
 have hdl:(l.drop (i+1)).length=l.length-(i+1):=List.length_drop
 have hdf:(flat txC (l.drop (i+1))).length=(l.length-(i+1))*1:=by rw[flat_len txC_len,hdl]
 dsimp only
 refine xjp ?_
 refine xjy ?_
 refine xjp ?_
 refine CE rfl (fun h=>absurd h yd) (fun h=>CK ?_)
 refine xjp ?_
 refine xjz ?_
 refine xjs ?_
 refine AG (AI rfl (light_head i rfl rfl rfl rfl rfl rfl yd) ?_)
 refine xjs ?_
 refine AG (AI rfl (light_from (i+1) rfl rfl rfl rfl rfl rfl yd yd) ?_)
 refine AG (AO (OpT.appendRoom (n:=i) (m:=l.length-(i+1)) (news:=flat txC (l.drop (i+1))) 0 rfl rfl rfl rfl rfl rfl rfl ?_ (flat_all txC_one _) yd ?_) rfl (fun v L' g=>by obtain⟨rfl,rfl⟩:=g;exact yu) ?_)
 ·by_cases hm:l.length=i+1
  ·have e:l.drop (i+1)=[]:=List.eq_nil_of_length_eq_zero yd
   rw[e,show l.length-(i+1)=0 from by omega]
   exact RdRow.nil
  ·have hne:¬cap=i+1:=by omega
   have hfa:fromA (some ⟨sb,0,none⟩) cap (i+1) 1=some ⟨sb,0+(i+1)*1,none⟩:=by unfold fromA;simp[hne,Addr.add_mid]
   show RdRow _ _ (.slice (fromA (some ⟨sb,0,none⟩) cap (i+1) 1) _ _) _ _ _
   rw[hfa]
   refine RdRow.pt 0 rfl ?_ hdf
   show((flat txC l++rest).drop (0+(i+1)*1)).take ((l.length-(i+1))*1)=_
   rw[Nat.zero_add,flat_drop txC_len _ _ _ yd,List.take_left' hdf]
 ·show i*1+(flat txC (l.drop (i+1))).length≤(flat txC l++rest).length
  rw[hdf,List.length_append,hfl,←Nat.add_mul]
  exact Nat.le_trans (Nat.mul_le_mul_right _ yd) (Nat.le_add_right _ _)
 rintro _ _ ⟨rfl,rfl⟩
 rw[show i+(l.length-(i+1))=l.length-1 from by omega]
 show VA _ _ _ _ _ _ [pt sb (wrC (flat txC l++rest) (i*1) (flat txC (l.drop (i+1)))) 9] _
 rw[hwr]
 refine zou ?_
 refine xka ?_
 rw[show l.length-(l.length-1)=1 from by omega]
 have hzz:(txC ⟨#[]⟩).length=z.length:=by rw[hz];rfl
 refine VG (VO.op1 (L':=[pt sb (flat txC (l.eraseIdx i)++((txC ⟨#[]⟩)++rest)) 9]) ((OpT.clear 0 rfl rfl rfl rfl rfl yo ?_ rfl).mono fun v L' g=>⟨g.1,by
  rw[g.2]
  show [pt sb (wrC (flat txC (l.eraseIdx i)++(z++rest)) (0+(l.length-1)*1) (txC ⟨#[]⟩)) 9]=_
  rw[wrC_mid (by rw[flat_len txC_len,hel];omega) hzz]⟩) ?_)
 ·show 0+(l.length-1)*1+1*1≤(flat txC (l.eraseIdx i)++(z++rest)).length
  rw[List.length_append,List.length_append,flat_len txC_len,hel,hz];omega
 refine xjp ?_
 refine CR (Ret.tmp 6 rfl rfl (L':=[slH 9 1 (some ⟨sb,0,none⟩) (l.length-1) cap (flat txC (l.eraseIdx i))]) (Imp.sl (by rw[flat_len txC_len,hel]) yd ?_ Imp.refl).ent ybg)
 rw[List.length_append,List.length_append,flat_len txC_len,hel,hzz,hz]
 rw[List.length_append,hfl] at hcl
 have:(l.length-1)*1+1=l.length*1:=by rw[←Nat.succ_mul];congr 1;omega
 omega
end Cl
namespace Cl
open Go Vg T Api
attribute [local irreducible] VO VC VA
abbrev byT:TypeId:=5
def byC(b:UInt8):List Value:=[.int .u8 (b.toNat:Int)]
theorem byC_len(b:UInt8):(byC b).length=1:=rfl
theorem flat_by(l:Bs):flat byC l=l.map fun c=>Value.int .u8 (c.toNat:Int):=by
 induction l with
 | nil=>rfl
 | cons b l ih=>rw[flat_cons,ih];rfl
theorem flat_byLen(l:Bs):(flat byC l).length=l.length:=by rw[flat_len byC_len];omega
theorem wrap_u8(n:Nat):IntKind.u8.wrap (n:Int)=((UInt8.ofNat n).toNat:Int):=by
 simp[IntKind.wrap,IntKind.bits,IntKind.signed,UInt8.toNat_ofNat']
theorem wrap_64{n:Nat}(h:n<18446744073709551616):IntKind.u64.wrap (n:Int)=(n:Int):=wrap_u64 yd yd
theorem by_get{l:Bs}{rest:List Value}{i:Nat}{v:UInt8}(h:l[i]?=some v):(flat byC l++rest)[0+i*1]?=some (.int .u8 (v.toNat:Int)):=by
 have:=flat_cell byC_len (j:=0) h rfl rest
 rw[Nat.zero_add];exact this
theorem by_set{l:Bs}{rest:List Value}{i:Nat}{v:UInt8}(h:i<l.length):(flat byC l++rest).set (0+i*1) (.int .u8 (v.toNat:Int))=flat byC (l.set i v)++rest:=by
 obtain⟨u,hu⟩:∃u,l[i]?=some u:=⟨_,GE h⟩
 have:=flat_setCell byC_len (a':=v) (j:=0) hu yo rfl rest
 rw[Nat.zero_add];exact this
structure RvI(cs ds:Bs)(i:Nat):Prop where
 len:ds.length=cs.length
 at_:∀k,k<cs.length→ds[k]?=if k<i∨cs.length-i≤k then cs[cs.length-1-k]? else cs[k]?
theorem RvI.done{cs ds:Bs}{i:Nat}(h:RvI cs ds i)(hi:cs.length≤2*i+1):ds=cs.reverse:=by
 refine List.ext_getElem? fun k=>?_
 by_cases hk:k<cs.length
 ·rw[h.at_ k hk,List.getElem?_reverse hk]
  split
  ·rfl
  ·congr 1;omega
 ·rw[List.getElem?_eq_none (by rw[h.len];omega),List.getElem?_eq_none (by rw[List.length_reverse];omega)]
theorem RvI.next{cs ds:Bs}{i:Nat}{x y:UInt8}(h:RvI cs ds i)(hi:2*i+1<cs.length)(hx:ds[i]?=some x)(hy:ds[cs.length-1-i]?=some y):RvI cs ((ds.set i y).set (cs.length-1-i) x) (i+1):=by
 have hl:=h.len
 refine⟨by simp[hl],fun k hk=>?_⟩
 have e1:cs[i]?=some x:=by rw[←hx,h.at_ i yd,if_neg yd]
 have e2:cs[cs.length-1-i]?=some y:=by rw[←hy,h.at_ _ yd,if_neg yd]
 by_cases h1:k=cs.length-1-i
 ·subst h1
  rw[List.getElem?_set_self ye,if_pos yd,show cs.length-1-(cs.length-1-i)=i from by omega,e1]
 rw[List.getElem?_set_ne yd]
 by_cases h2:k=i
 ·subst h2
  rw[List.getElem?_set_self yd,if_pos yd,e2]
 rw[List.getElem?_set_ne yd,h.at_ k hk]
 by_cases h3:k<i∨cs.length-i≤k
 ·rw[if_pos h3,if_pos yd]
 ·rw[if_neg h3,if_neg yd]
theorem reverse_spec(b n cap:Nat)(cs:Bs)(rest:List Value)(hn:cs.length=n)(h0:1≤n)(h1:n≤1000):
  Tri Tryz.prog 267 [.slice (some ⟨b,0,none⟩) n cap] Fr w [pt b (flat byC cs++rest) byT] (fun v L=>v=.tuple #[]∧L=[pt b (flat byC cs.reverse++rest) byT]):=by
 refine TF 28 Tryz.func267 rfl ym tabOk rfl rfl ?_
 refine xjp ?_
 refine zqb ?_
 refine VC.loop (σ:=Nat×Bs) (fun s=>[(0,.slice (some ⟨b,0,none⟩) n cap),(2,.int .i64 (s.1:Int)),(3,.int .i64 ((n:Int)-1-s.1))]) (fun s=>[pt b (flat byC s.2++rest) byT]) (fun s=>RvI cs s.2 s.1∧s.1≤n) (fun s=>n-s.1) (0,cs)
  (by refine⟨⟨rfl,fun k hk=>?_⟩,Nat.zero_le _⟩;rw[if_neg yd]) (SC rfl (SC rfl (Sub.int rfl ybb (SN _)))) ER ?_
 rintro⟨i,ds⟩ ⟨hR,hi⟩
 have hl:ds.length=n:=by rw[hR.len,hn]
 dsimp only
 refine xjp ?_
 refine CP (p:=(i:Int)<(n:Int)-1-i) rfl (fun h2=>CK ?_) (fun h2=>CX ?_)
 rotate_left
 ·have hd:=hR.done yd
  subst hd
  refine xjp ?_
  exact xes
 obtain⟨x,hx⟩:∃x,ds[i]?=some x:=⟨_,GE yd⟩
 obtain⟨y,hy⟩:∃y,ds[n-1-i]?=some y:=⟨_,GE yd⟩
 have hj:(n:Int)-1-i=((n-1-i:Nat):Int):=by omega
 have hcap:n≤n:=NR _
 rw[hj]
 refine xjp ?_
 refine CD (ts 0 13 (.only 13 (.take 14 (.only 15 .nil)))) ym yr ?_
 refine xjs ?_
 refine AG (AI rfl (light_idx (n-1-i) rfl rfl rfl rfl rfl rfl yd) ?_)
 refine AG (VA.ld 0 rfl rfl rfl rfl (by_get (i:=n-1-i) hy) ?_)
 refine xjs ?_
 refine AG (AI rfl (light_idx i rfl rfl rfl rfl rfl rfl yd) ?_)
 refine AG (VA.ld 0 rfl rfl rfl rfl (by_get (i:=i) hx) ?_)
 refine xjs ?_
 refine AG (AI rfl (light_idx i rfl rfl rfl rfl rfl rfl yd) ?_)
 refine AG (VA.st 0 (cs':=flat byC (ds.set i y)++rest) rfl rfl rfl rfl rfl (by show 0+i*1<_;rw[List.length_append,flat_byLen];omega) (by_set (i:=i) yd) rfl yu ?_)
 refine xjs ?_
 refine AG (AI rfl (light_idx (n-1-i) rfl rfl rfl rfl rfl rfl yd) ?_)
 refine AG (VA.st 0 (cs':=flat byC ((ds.set i y).set (n-1-i) x)++rest) rfl rfl rfl rfl rfl (by show 0+(n-1-i)*1<_;rw[List.length_append,flat_byLen,List.length_set];omega) (by_set (i:=n-1-i) (by rw[List.length_set];omega)) rfl yu ?_)
 refine zou ?_
 refine xdl ?_
 refine zqb ?_
 refine⟨(i+1,(ds.set i y).set (n-1-i) x),⟨?_,by omega⟩,by dsimp only;omega,SC rfl (SC rfl (Sub.int rfl ybb (SN _))),ER⟩
 subst hn
 exact hR.next yd hx hy
end Cl
namespace Cl
open Go Vg T Api
attribute [local irreducible] VO VC VA
theorem ofNat_mod(n:Nat):UInt8.ofNat (n % 256)=UInt8.ofNat n:=by apply UInt8.toNat_inj.1;simp[UInt8.toNat_ofNat']
theorem leB_zero:∀k,leB k 0=[]
 | 0=>rfl
 | k+1=>by rw[leB,if_pos rfl]
theorem bT_drop(l:Bs)(k:Nat):(bT l).extract k (bT l).size=bT (l.drop k):=by
 rw[bT_size];exact ByteArray.ext (by simp[bT,List.take_of_length_le])
theorem bT_take(l:Bs)(k:Nat):(bT l).extract 0 k=bT (l.take k):=ByteArray.ext (by simp[bT])
theorem bytes_eq(a b:ByteArray):(a.toList == b.toList)=decide (a=b):=by
 by_cases h:a=b
 ·subst h;simp
 ·have:a.toList≠b.toList:=fun e=>h (by
   rw[ByteArray.toList_eq,ByteArray.toList_eq] at e
   exact ByteArray.ext (Array.toList_inj.1 e))
  rw[DF h];simpa using this
theorem bT_eq(a b:Bs):((bT a).toList == (bT b).toList)=decide (a=b):=by
 rw[bytes_eq]
 by_cases h:a=b
 ·rw[DT h,DT (congrArg bT h)]
 ·rw[DF h,DF fun k=>h (bT_inj k)]
theorem beN_take{r:Bs}{j:Nat}{b:UInt8}(h:r[j]?=some b):beN (r.take (j+1))=beN (r.take j)*256+b.toNat:=by
 rw[List.take_add_one,h,←beN_app];rfl
theorem beN_take_lt{r:Bs}{j:Nat}(h:j≤8):beN (r.take j)<256 ^ j:=by
 have:=beN_lt (r.take j)
 exact Nat.lt_of_lt_of_le this (Nat.pow_le_pow_right yo yak)
theorem pow7{j:Nat}(h:j≤7):256 ^ j≤72057594037927936:=by
 have:256 ^ j≤256 ^ 7:=Nat.pow_le_pow_right yo h
 exact this
theorem pow8{j:Nat}(h:j≤8):256 ^ j≤18446744073709551616:=by
 have:256 ^ j≤256 ^ 8:=Nat.pow_le_pow_right yo h
 exact this
theorem num_spec(n:Nat)(hn:n<18446744073709551616):Tri Tryz.prog 223 [.int .u64 n] Fr w [] (fun v L=>v=.string (bT (numB n))∧L=[]):=by
 refine TF 30 Tryz.func223 rfl ym tabOk rfl rfl ?_
 refine xjp ?_
 refine CP (p:=(n:Int)≤247) rfl (fun h=>?_) (fun h=>CK ?_)
 ·refine xjp ?_
  refine VG (VI (light_conv ((UInt8.ofNat n).toNat:Int) rfl rfl rfl rfl rfl (wrap_u8 n)) ?_)
  refine VG (VO.buildSlice (pv:=[(0,.int .u8 ((UInt8.ofNat n).toNat:Int))]) (byC (UInt8.ofNat n)) rfl rfl rfl rfl yo rfl fun b=>?_)
  refine VG (VO.op1 (OpT.str (bs:=[UInt8.ofNat n]) 0 rfl rfl rfl rfl rfl rfl rfl rfl rfl rfl) ?_)
  refine xjp ?_
  exact CR (Ret.tmp 2 rfl rfl Imp.nil.ent ⟨by rw[numB,if_pos yd];rfl,rfl⟩)
 refine xjp ?_
 refine VC.loop (σ:=Bs×Nat×Option Addr×Nat) (fun s=>[(0,.int .u64 (s.2.1:Int)),(3,.slice s.2.2.1 s.1.length s.2.2.2)]) (fun s=>[slH byT 1 s.2.2.1 s.1.length s.2.2.2 (flat byC s.1)]) (fun s=>leB 8 n=s.1++leB (8-s.1.length) s.2.1∧s.1.length≤8∧s.2.1<256 ^ (8-s.1.length)) (fun s=>8-s.1.length) ([],n,none,0)
  ⟨rfl,Nat.zero_le _,hn⟩ sbZ (Imp.slNil Imp.nil).ent ?_
 rintro⟨done,cur,a,c⟩ ⟨hJ,hl,hc⟩
 dsimp only at hJ hl hc ⊢
 refine xjp ?_
 refine CP (p:=0<(cur:Int)) rfl (fun h2=>CK ?_) (fun h2=>CX ?_)
 ·obtain⟨k,hk⟩:∃k,8-done.length=k+1:=⟨8-done.length-1,by
   by_cases h8:done.length=8
   ·rw[h8] at hc;simp at hc;omega
   ·omega⟩
  have hu:leB (k+1) cur=UInt8.ofNat cur::leB k (cur / 256):=by rw[leB,if_neg yd,ofNat_mod]
  rw[hk] at hc
  rw[hk,hu] at hJ
  refine xjp ?_
  refine VG (VI (light_conv ((UInt8.ofNat cur).toNat:Int) rfl rfl rfl rfl rfl (wrap_u8 cur)) ?_)
  refine VG (VO.buildSlice (pv:=[(0,.int .u8 ((UInt8.ofNat cur).toNat:Int))]) (byC (UInt8.ofNat cur)) rfl rfl rfl rfl yo rfl fun b=>?_)
  refine VG (VO.append (m:=1) (news:=byC (UInt8.ofNat cur)) 1 rfl rfl rfl rfl rfl rfl rfl (RdRow.pt 0 rfl rfl rfl) rfl ybh yd fun a2 c2 hc2=>?_)
  refine xjp ?_
  refine VG (VI (light_shrK (n:=8) rfl rfl yo) ?_)
  refine xjp ?_
  have hL:(done ++ [UInt8.ofNat cur]).length=done.length+1:=by simp
  refine⟨(done ++ [UInt8.ofNat cur],cur / 2 ^ 8,a2,c2),⟨?_,by dsimp only;omega,?_⟩,by dsimp only;omega,SC rfl (SC (by dsimp only;rw[hL];rfl) (SN _)),?_⟩
  ·dsimp only
   rw[hJ,hL,show 8-(done.length+1)=k from by omega,List.append_assoc];rfl
  ·dsimp only
   rw[hL,show 8-(done.length+1)=k from by omega]
   rw[Nat.pow_succ] at hc
   exact Nat.div_lt_of_lt_mul (by rw[Nat.mul_comm];exact hc)
  ·dsimp only
   rw[hL,flat_append]
   exact(IP 0 rfl Imp.nil).ent
 obtain rfl:cur=0:=by omega
 rw[leB_zero,List.append_nil] at hJ
 refine xjp ?_
 refine xdl ?_
 refine VG (VI (light_conv ((UInt8.ofNat (247+done.length)).toNat:Int) rfl rfl rfl rfl rfl (wrap_u8 (247+done.length))) ?_)
 generalize hz:UInt8.ofNat (247+done.length)=z
 refine VG (VO.buildSlice (pv:=[(0,.int .u8 (z.toNat:Int))]) (byC z) rfl rfl rfl rfl yo rfl fun b=>?_)
 refine VG (VO.append (m:=1) (news:=byC z) 1 rfl rfl rfl rfl rfl rfl rfl (RdRow.pt 0 rfl rfl rfl) rfl ybh yd fun a2 c2 hc2=>?_)
 refine xjp ?_
 rw[show flat byC done++byC z=flat byC (done ++ [z]) from by rw[flat_append];rfl]
 refine VO.opn 0 rfl (HOpn.sl _ _ _ _ _ _) ?_
 rintro(_ | ⟨sb,rest⟩) ⟨hx1,hx2,hx3⟩
 ·obtain⟨_,h0,_⟩:=hx3
  omega
 obtain⟨rfl,hx4⟩:=hx3
 dsimp only
 refine xjp ?_
 refine VG (VQ 0 rfl (fun Fr w hF hw _=>reverse_spec Fr w sb (done.length+1) c2 (done ++ [z]) rest yf yd yd) rfl (ψ:=fun v H=>v=.tuple #[]∧H=pt sb (flat byC (done ++ [z]).reverse++rest) byT) yy ?_)
 rintro _ _ ⟨rfl,rfl⟩
 refine xjp ?_
 refine VG (VO.op1 (OpT.str (bs:=(done ++ [z]).reverse) 0 rfl rfl rfl rfl rfl rfl rfl rfl yf (by rw[←flat_by,List.take_left' (by rw[flat_byLen];simp)])) ?_)
 refine xjp ?_
 exact CR (Ret.tmp 2 rfl rfl Imp.nil.ent ⟨by rw[numB,if_neg yd,hJ,hz,List.reverse_append];rfl,rfl⟩)
theorem int_spec(n:Int):Tri Tryz.prog 155 [.int .i64 n] Fr w [] (fun v L=>v=.string (bT (intB n))∧L=[]):=by
 refine TF 13 Tryz.func155 rfl ym tabOk rfl rfl ?_
 refine xjp ?_
 by_cases h1:n < -1
 ·refine VG (VY 5 true rfl (DT h1) ?_)
  refine zoy ?_
  exact CR (Ret.tmp 2 rfl rfl ER ⟨by rw[intB,if_pos (.inl h1)];rfl,rfl⟩)
 refine VG (VY 5 false rfl (DF h1) ?_)
 refine xjq ?_
 refine CP (p:=1099511627776<n) rfl (fun h2=>?_) (fun h2=>CK ?_)
 ·refine xjp ?_
  exact CR (Ret.tmp 2 rfl rfl ER ⟨by rw[intB,if_pos (.inr h2)];rfl,rfl⟩)
 refine xjp ?_
 refine xdl ?_
 refine VG (VI (light_conv (((n+1).toNat:Nat):Int) rfl rfl rfl rfl rfl (by rw[wrap_u64 yd yd];omega)) ?_)
 refine VG (VV (fun Fr w hF hw _=>num_spec Fr w (n+1).toNat yd) rfl ?_)
 refine xjp ?_
 exact CR (Ret.tmp 2 rfl rfl ER ⟨by rw[intB,if_neg yd],rfl⟩)
theorem text_spec(s:ByteArray)(hs:s.size≤1000000):Tri Tryz.prog 225 [.string s] Fr w [] (fun v L=>v=.string (bT (textB (sB s)))∧L=[]):=by
 have hl:(numB s.size).length≤9:=by
  unfold numB
  split
  ·simp
  ·have:=leB_len 8 s.size;simp;omega
 refine TF 9 Tryz.func225 rfl ym tabOk rfl rfl ?_
 refine xjp ?_
 refine VG (VI (light_conv (s.size:Int) rfl rfl rfl rfl rfl (wrap_64 yd)) ?_)
 refine VG (VV (fun Fr w hF hw _=>num_spec Fr w s.size yd) rfl ?_)
 refine xjp ?_
 refine VG (VI (light_cat rfl rfl (by rw[bT_size];omega)) ?_)
 refine xjp ?_
 exact CR (Ret.tmp 2 rfl rfl ER ⟨by rw[textB,bT_app,bT_of,sB_len],rfl⟩)
end Cl
namespace Cl
open Go Vg T Api
attribute [local irreducible] VO VC VA
theorem Ret.t3{X:Cx}{fn:Func}{R:Value→List HP→Prop}{e:Env}{L:List HP}(t u r:Nat)(h:fn.results=#[.tmp t,.tmp u,.tmp r]){v x y:Value}(hv:Vg.look e t=some v)(hx:Vg.look e u=some x)(hy:Vg.look e r=some y){L':List HP}(he:Ent X L L')(hR:R (.tuple #[v,x,y]) L'):Ret X fn R e L:=
 ⟨_,L',⟨fun a w ha hw=>by
  have h1:=ha.at_ t _ hv
  have h2:=ha.at_ u _ hx
  have h3:=ha.at_ r _ hy
  simp only[Array.getD_eq_getD_getElem?] at h1 h2 h3
  simp[results,h,h1,h2,h3]⟩,he,hR⟩
def rdV:Option (Nat×Bs)→Value
 | some (n,r)=>.tuple #[.int .u64 n,.string (bT r),.bool true]
 | none=>.tuple #[.int .u64 0,.string (bT []),.bool false]
def unV:Option (Int×Bs)→Value
 | some (n,r)=>.tuple #[.int .i64 n,.string (bT r),.bool true]
 | none=>.tuple #[.int .i64 0,.string (bT []),.bool false]
def ctV:Option (Bs×Bs)→Value
 | some (n,r)=>.tuple #[.string (bT n),.string (bT r),.bool true]
 | none=>.tuple #[.string (bT []),.string (bT []),.bool false]
theorem read_spec(s:Bs)(hs:s.length≤1000000):Tri Tryz.prog 277 [.string (bT s)] Fr w [] (fun v L=>v=rdV (readB s)∧L=[]):=by
 refine TF 48 Tryz.func277 rfl ym tabOk rfl rfl ?_
 refine xjp ?_
 refine CC rfl (fun h=>?_) (fun h=>CK ?_)
 ·have h:s=[]:=by rw[show(ByteArray.mk #[])=bT [] from rfl,bT_eq] at h;exact of_decide_eq_true h
  subst h
  refine xjp ?_
  exact CR (Ret.t3 2 3 4 rfl rfl rfl rfl ER ⟨rfl,rfl⟩)
 have h:s≠[]:=by rw[show(ByteArray.mk #[])=bT [] from rfl,bT_eq] at h;exact of_decide_eq_false h
 obtain⟨c,r,rfl⟩:∃c r,s=c::r:=by cases s with
  | nil=>exact absurd rfl h
  | cons c r=>exact⟨c,r,rfl⟩
 have hc:c.toNat<256:=c.toNat_lt
 rw[List.length_cons] at hs
 have hsz:(bT (c::r)).size=r.length+1:=by rw[bT_size];rfl
 refine xjp ?_
 refine VG (VI (light_strAt (b:=c) 0 rfl rfl rfl rfl rfl rfl) ?_)
 refine xjp ?_
 refine CP (p:=(c.toNat:Int)≤247) rfl (fun h2=>?_) (fun h2=>CK ?_)
 ·refine xjp ?_
  refine CD (ts 0 8 .nil) ym yr ?_
  refine xjs ?_
  refine AG (AI rfl (light_strAt (b:=c) 0 rfl rfl rfl rfl rfl rfl) ?_)
  refine AG (AI rfl (light_conv (c.toNat:Int) rfl rfl rfl rfl rfl (wrap_64 yd)) ?_)
  refine xjs ?_
  refine AG (AI rfl (light_sFrom 1 rfl rfl rfl rfl rfl (by rw[hsz];omega)) ?_)
  refine xjs ?_
  exact CR (Ret.t3 2 3 4 rfl rfl rfl rfl ER ⟨by rw[readB,if_pos yd,bT_drop];rfl,rfl⟩)
 obtain⟨k,hk⟩:∃k,c.toNat-247=k:=⟨_,rfl⟩
 have hk1:1≤k:=by omega
 have hk8:k≤8:=by omega
 refine xjp ?_
 refine VG (VI (light_strAt (b:=c) 0 rfl rfl rfl rfl rfl rfl) ?_)
 refine VG (VI (light_conv (c.toNat:Int) rfl rfl rfl rfl rfl (i64_in _ yd yd)) ?_)
 refine xdl ?_
 refine xed ?_
 rw[show(1:Int)+c.toNat-247=((k+1:Nat):Int) from by omega]
 refine xjp ?_
 have hr:readB (c::r)=if r.length<k then none else if numB (beN (r.take k))=c::r.take k then some (beN (r.take k),r.drop k) else none:=by
  rw[readB,if_neg yd,hk]
 refine CP (p:=((bT (c::r)).size:Int)<((k+1:Nat):Int)) rfl (fun h3=>?_) (fun h3=>CK ?_)
 ·rw[hsz] at h3
  refine xjp ?_
  exact CR (Ret.t3 2 3 4 rfl rfl rfl rfl ER ⟨by rw[hr,if_pos yd];rfl,rfl⟩)
 rw[hsz] at h3
 rw[if_neg yd] at hr
 refine xjp ?_
 refine VC.loop (σ:=Nat) (fun j=>[(0,.string (bT (c::r))),(5,.int .i64 ((k+1:Nat):Int)),(6,.int .i64 ((j+1:Nat):Int)),(2,.int .u64 ((beN (r.take j):Nat):Int))]) (fun _=>[]) (fun j=>j≤k) (fun j=>k-j) 0
  (Nat.zero_le _) (SC rfl (SC rfl (SC rfl (Sub.int rfl (by rw[List.take_zero];rfl) (SN _))))) ER ?_
 intro j hj
 refine xjp ?_
 refine CP (p:=((j+1:Nat):Int)<((k+1:Nat):Int)) rfl (fun h4=>CK ?_) (fun h4=>CX ?_)
 ·obtain⟨b,hb⟩:∃b,r[j]?=some b:=⟨_,GE yd⟩
  have h256:b.toNat<256:=b.toNat_lt
  have hlt:=beN_take_lt (r:=r) (j:=j) yd
  have hp:=pow7 (j:=j) yd
  have hsh:beN (r.take j)*2 ^ 8<18446744073709551616:=by omega
  refine xjp ?_
  refine VG (VI (light_shlK (n:=8) ((beN (r.take j)*2 ^ 8:Nat):Int) rfl rfl yo (wrap_64 hsh)) ?_)
  refine xjp ?_
  refine VG (VI (light_strAt (b:=b) (j+1) rfl rfl rfl rfl rfl hb) ?_)
  refine VG (VI (light_conv (b.toNat:Int) rfl rfl rfl rfl rfl (wrap_64 yd)) ?_)
  refine VG (VI (light_or64 rfl rfl hsh yd) ?_)
  refine zom ?_
  refine⟨j+1,by omega,by dsimp only;omega,SC rfl (SC rfl (Sub.int rfl yd (Sub.int rfl (by rw[beN_take hb,show(2:Nat) ^ 8=256 from rfl,or_shift h256]) (SN _)))),ER⟩
 obtain rfl:j=k:=by omega
 have hlt:=beN_take_lt (r:=r) (j:=j) hk8
 have hp:=pow8 (j:=j) hk8
 refine xjp ?_
 refine CD (ts 0 1 (ts 2 3 (.only 1 (.take 5 .nil)))) ym yr ?_
 refine xjs ?_
 refine AG (AI rfl (light_sTo (j+1) rfl rfl rfl rfl rfl (by rw[hsz];omega)) ?_)
 refine AG (AR (fun Fr w hF hs hS=>num_spec Fr w (beN (r.take j)) yd) rfl rfl yu ?_)
 refine xjs ?_
 rw[bT_take]
 refine VC.condN rfl (fun h5=>?_) (fun h5=>CK ?_)
 ·have h5:¬numB (beN (r.take j))=c::r.take j:=by rw[bT_eq] at h5;exact of_decide_eq_false h5
  refine xjp ?_
  exact CR (Ret.t3 2 3 4 rfl rfl rfl rfl ER ⟨by rw[hr,if_neg h5];rfl,rfl⟩)
 have h5:numB (beN (r.take j))=c::r.take j:=by rw[bT_eq] at h5;exact of_decide_eq_true h5
 refine xjp ?_
 refine CD (ts 0 7 .nil) ym yr ?_
 refine xjs ?_
 refine AG (AI rfl (light_sFrom (j+1) rfl rfl rfl rfl rfl (by rw[hsz];omega)) ?_)
 refine xjs ?_
 exact CR (Ret.t3 2 3 4 rfl rfl rfl rfl ER ⟨by rw[hr,if_pos h5,bT_drop];rfl,rfl⟩)
theorem unint_spec(s:Bs)(hs:s.length≤1000000):Tri Tryz.prog 242 [.string (bT s)] Fr w [] (fun v L=>v=unV (unintB s)∧L=[]):=by
 refine TF 22 Tryz.func242 rfl ym tabOk rfl rfl ?_
 refine xjp ?_
 cases hr:readB s with
 | none=>
  refine xkb ?_
  refine xjq ?_
  refine xdo ?_
  refine zoy ?_
  exact CR (Ret.t3 2 3 4 rfl rfl rfl rfl ER ⟨by rw[unintB,hr];rfl,rfl⟩)
 | some x=>
  obtain⟨u,r⟩:=x
  have hu:=readB_lt hr
  refine xkc ?_
  refine xjq ?_
  refine VG (VY 14 false rfl rfl ?_)
  refine xjq ?_
  refine CP (p:=(1099511627777:Int)<(u:Int)) rfl (fun h2=>?_) (fun h2=>CK ?_)
  ·refine xjp ?_
   exact CR (Ret.t3 2 3 4 rfl rfl rfl rfl ER ⟨by rw[unintB,hr];dsimp only;rw[if_pos yd];rfl,rfl⟩)
  refine xjp ?_
  refine VG (VI (light_conv (u:Int) rfl rfl rfl rfl rfl (i64_in _ yd yd)) ?_)
  refine zqb ?_
  exact CR (Ret.t3 2 3 4 rfl rfl rfl rfl ER ⟨by rw[unintB,hr];dsimp only;rw[if_neg yd];rfl,rfl⟩)
theorem cut_spec(s:Bs)(hs:s.length≤1000000):Tri Tryz.prog 244 [.string (bT s)] Fr w [] (fun v L=>v=ctV (cutB s)∧L=[]):=by
 refine TF 27 Tryz.func244 rfl ym tabOk rfl rfl ?_
 refine xjp ?_
 cases hr:readB s with
 | none=>
  refine xkb ?_
  refine xjq ?_
  refine xdo ?_
  refine zoy ?_
  exact CR (Ret.t3 2 3 4 rfl rfl rfl rfl ER ⟨by rw[cutB,hr];rfl,rfl⟩)
 | some x=>
  obtain⟨u,r⟩:=x
  have hu:=readB_lt hr
  have hrl:=readB_len hr
  have hsz:(bT r).size=r.length:=bT_size r
  refine xkc ?_
  refine xjq ?_
  refine VG (VY 14 false rfl rfl ?_)
  refine xjq ?_
  refine VG (VI (light_conv ((bT r).size:Int) rfl rfl rfl rfl rfl (wrap_64 yd)) ?_)
  refine xjq ?_
  refine CP (p:=((bT r).size:Int)<(u:Int)) rfl (fun h2=>?_) (fun h2=>CK ?_)
  ·refine xjp ?_
   exact CR (Ret.t3 2 3 4 rfl rfl rfl rfl ER ⟨by rw[cutB,hr];dsimp only;rw[if_pos yd];rfl,rfl⟩)
  refine xjp ?_
  refine CD (ts 0 9 .nil) ym yr ?_
  refine xjs ?_
  refine AG (AI rfl (light_sTo u rfl rfl rfl rfl rfl yd) ?_)
  refine xjs ?_
  refine AG (AI rfl (light_sFrom u rfl rfl rfl rfl rfl yd) ?_)
  refine xjs ?_
  exact CR (Ret.t3 2 3 4 rfl rfl rfl rfl ER ⟨by rw[cutB,hr];dsimp only;rw[if_neg yd,bT_drop,bT_take];rfl,rfl⟩)
end Cl
namespace Cl
open Go Vg T Api
attribute [local irreducible] VO VC VA
theorem numB_len(n:Nat):(numB n).length≤9:=by
 unfold numB
 split
 ·simp
 ·have:=leB_len 8 n;simp;omega
theorem intB_len(n:Int):(intB n).length≤9:=by
 unfold intB
 split
 ·exact Nat.zero_le _
 ·exact numB_len _
theorem textB_len(s:Bs):(textB s).length≤9+s.length:=by
 have:=numB_len s.length
 rw[textB,List.length_append];omega
theorem op_sizes{o:OpM}(h:opCheck o=0):o.key.size≤16∧o.value.size≤64:=by
 unfold opCheck at h
 split at h
 ·exact absurd h yo
 split at h
 ·exact absurd h yo
 rename_i h2
 simp[opLong] at h2
 omega
theorem opB_len{o:OpM}(h:opCheck o=0):(opB o).length≤116:=by
 obtain⟨h1,h2⟩:=op_sizes h
 have a:=intB_len o.kind
 have b:=textB_len (sB o.key)
 have c:=textB_len (sB o.value)
 have d:=intB_len o.version
 rw[sB_len] at b c
 unfold opB
 simp only[List.length_append]
 have e:(if valB o.kind=true then textB (sB o.value) else []).length≤73:=by split<;>first | omega | simp
 have f:(if o.kind=4 then intB o.version else []).length≤9:=by split<;>first | omega | simp
 omega
theorem oput_spec(o:OpM):Tri Tryz.prog 224 [.agg o.cells.toArray] Fr w [] (fun v L=>v=.tuple #[.string (bT (if opCheck o=0 then opB o else [])),.int .i64 (opCheck o)]∧L=[]):=by
 refine TF 35 Tryz.func224 rfl ym tabOk rfl rfl ?_
 refine CS (CG (VG (VB (vs:=o.cells) rfl fun b=>VG (VN ?_))))
 refine xjp ?_
 refine VG (VL 0 o.cells rfl rfl rfl rfl ?_)
 refine VG (VV (fun Fr w hF hw _=>Api.check_spec Fr w o) rfl ?_)
 refine xjp ?_
 refine VC.condNE rfl (fun h=>?_) (fun h=>CK ?_)
 ·refine xjp ?_
  exact CR (Ret.tmp2 2 3 rfl rfl rfl Imp.nil.ent ⟨by rw[if_neg h];rfl,rfl⟩)
 rw[if_pos h,h]
 obtain⟨hk,hv⟩:=op_sizes h
 have l1:=intB_len o.kind
 have l2:=textB_len (sB o.key)
 have l3:=textB_len (sB o.value)
 have l4:=intB_len o.version
 rw[sB_len] at l2 l3
 refine xjp ?_
 refine CD (ts 0 2 (ts 3 2 (.only 2 (.only 5 (ts 6 2 .nil))))) ym yr ?_
 refine xeh ?_
 refine AG (AR (fun Fr w hF hs hS=>int_spec Fr w o.kind) rfl rfl yu ?_)
 refine AG (AR (fun Fr w hF hs hS=>text_spec Fr w o.key yd) rfl rfl yu ?_)
 refine xkd ?_
 rw[←bT_app]
 refine zpr ?_
 refine VG (VV (fun Fr w hF hw _=>valued_spec Fr w o.kind) rfl ?_)
 refine xdf ?_
 refine VC.meetS (σ:=Bs) (fun s=>[(1,pV b),(5,.string (bT s))]) (fun _=>[pt b o.cells 35]) (fun s=>s=intB o.kind++textB (sB o.key)++(if valB o.kind=true then textB (sB o.value) else [])) ?_ ?_
 ·refine CC rfl (fun h2=>?_) (fun h2=>CK ?_)
  ·refine xdf ?_
   refine VG (VV (fun Fr w hF hw _=>text_spec Fr w o.value yd) rfl ?_)
   refine VG (VI (light_cat rfl rfl (by rw[bT_size,bT_size,List.length_append];omega)) ?_)
   rw[←bT_app]
   refine xdf ?_
   exact⟨_,by rw[show valB o.kind=true from h2,if_pos rfl],SC rfl (SC rfl (SN _)),ER⟩
  ·exact⟨_,by rw[show valB o.kind=false from h2,if_neg yo,List.append_nil],SC rfl (SC rfl (SN _)),ER⟩
 rintro s rfl
 have e:(if valB o.kind=true then textB (sB o.value) else []).length≤73:=by split<;>first | omega | simp
 refine xdf ?_
 refine VC.meetS (σ:=Bs) (fun s=>[(1,pV b),(5,.string (bT s))]) (fun _=>[pt b o.cells 35]) (fun s=>s=opB o) ?_ ?_
 ·refine CE rfl (fun h2=>?_) (fun h2=>CK ?_)
  ·refine xdf ?_
   refine VG (VV (fun Fr w hF hw _=>int_spec Fr w o.version) rfl ?_)
   refine xke ?_
   rw[←bT_app]
   refine xdf ?_
   exact⟨_,by rw[opB,if_pos h2],SC rfl (SC rfl (SN _)),ER⟩
  ·exact⟨_,by rw[opB,if_neg h2,List.append_nil],SC rfl (SC rfl (SN _)),ER⟩
 rintro s rfl
 refine xdf ?_
 exact CR (Ret.tmp2 2 3 rfl rfl rfl Imp.nil.ent ⟨rfl,rfl⟩)
end Cl
namespace Cl
open Go Vg T Api
attribute [local irreducible] VO VC VA
theorem cutB_len{s a r:Bs}(h:cutB s=some (a,r)):a.length≤s.length∧r.length≤s.length:=by
 unfold cutB at h
 cases hr:readB s with
 | none=>rw[hr] at h;cases h
 | some x=>
  obtain⟨n,q⟩:=x
  have:=readB_len hr
  rw[hr] at h
  dsimp only at h
  split at h
  ·cases h
  ·simp only[Option.some.injEq,Prod.mk.injEq] at h
   obtain⟨rfl,rfl⟩:=h
   rw[List.length_take,List.length_drop];omega
def g1(s:Bs):Option (OpM×Bs):=(unintB s).map fun x=>(⟨x.1,bT [],bT [],0⟩,x.2)
def g2(s:Bs):Option (OpM×Bs):=(g1 s).bind fun x=>(cutB x.2).map fun y=>({ x.1 with key:=bT y.1 },y.2)
def g3(s:Bs):Option (OpM×Bs):=(g2 s).bind fun x=>if valB x.1.kind=true then (cutB x.2).map fun y=>({ x.1 with value:=bT y.1 },y.2) else some x
def g4(s:Bs):Option (OpM×Bs):=(g3 s).bind fun x=>if x.1.kind=4 then (unintB x.2).map fun y=>({ x.1 with version:=y.1 },y.2) else some x
theorem getO_eq(s:Bs):getO s=(g4 s).bind fun x=>if x.2=[]∧opCheck x.1=0 then some x.1 else none:=by
 unfold getO g4 g3 g2 g1
 cases h1:unintB s with
 | none=>rfl
 | some x=>
  obtain⟨k,r⟩:=x
  simp only[Option.map_some,Option.bind_some]
  cases h2:cutB r with
  | none=>rfl
  | some y=>
   obtain⟨key,r2⟩:=y
   simp only[Option.map_some,Option.bind_some]
   by_cases hv:valB k=true
   ·simp only[hv,if_true]
    cases h3:cutB r2 with
    | none=>rfl
    | some z=>
     obtain⟨val,r3⟩:=z
     simp only[Option.map_some,Option.bind_some]
     by_cases h4:k=4
     ·simp only[h4,if_true]
      cases h5:unintB r3 with
      | none=>rfl
      | some u=>simp only[Option.map_some,Option.bind_some]
     ·simp only[h4,if_false,Option.bind_some]
   ·simp only[hv,if_false,Bool.false_eq_true,Option.bind_some]
    by_cases h4:k=4
    ·exact absurd (by subst h4;rfl) hv
    ·simp only[h4,if_false,Option.bind_some]
structure GI(o:Option (OpM×Bs))(n:Nat)(x:OpM×Bs×Bool):Prop where
 len:x.2.1.length≤n
 is_:if x.2.2=true then o=some (x.1,x.2.1) else o=none
theorem GI.yes{o:Option (OpM×Bs)}{n:Nat}{p:OpM}{r:Bs}(h:o=some (p,r))(hl:r.length≤n):GI o n (p,r,true):=⟨hl,h⟩
theorem GI.no{o:Option (OpM×Bs)}{n:Nat}{p:OpM}{r:Bs}(h:o=none)(hl:r.length≤n):GI o n (p,r,false):=⟨hl,h⟩
theorem GI.t{o:Option (OpM×Bs)}{n:Nat}{p:OpM}{r:Bs}(h:GI o n (p,r,true)):o=some (p,r):=h.is_
theorem GI.f{o:Option (OpM×Bs)}{n:Nat}{p:OpM}{r:Bs}(h:GI o n (p,r,false)):o=none:=h.is_
abbrev opT:TypeId:=35
def goV:Option OpM→Value
 | some o=>.tuple #[.agg o.cells.toArray,.int .i64 0]
 | none=>.tuple #[.agg (OpM.cells ⟨0,bT [],bT [],0⟩).toArray,.int .i64 10]
theorem un_get(s:Bs):∃k r ok,unV (unintB s)=.tuple #[.int .i64 k,.string (bT r),.bool ok]∧r.length≤s.length∧(ok=true→unintB s=some (k,r))∧(ok=false→unintB s=none):=by
 cases h:unintB s with
 | none=>exact⟨0,[],false,rfl,Nat.zero_le _,fun h=>(Bool.false_ne_true h).elim,fun _=>rfl⟩
 | some x=>exact⟨x.1,x.2,true,rfl,by have:=(unintB_in (n:=x.1) (r:=x.2) h).2.2;omega,fun _=>rfl,fun h=>(Bool.false_ne_true h.symm).elim⟩
theorem ct_get(s:Bs):∃a r ok,ctV (cutB s)=.tuple #[.string (bT a),.string (bT r),.bool ok]∧r.length≤s.length∧(ok=true→cutB s=some (a,r))∧(ok=false→cutB s=none):=by
 cases h:cutB s with
 | none=>exact⟨[],[],false,rfl,Nat.zero_le _,fun h=>(Bool.false_ne_true h).elim,fun _=>rfl⟩
 | some x=>exact⟨x.1,x.2,true,rfl,(cutB_len (a:=x.1) (r:=x.2) h).2,fun _=>rfl,fun h=>(Bool.false_ne_true h.symm).elim⟩
abbrev gE(b2 b4:Nat)(x:OpM×Bs×Bool):Env:=[(2,pV b2),(4,pV b4),(6,.string (bT x.2.1)),(7,.bool x.2.2)]
abbrev gH(b2 b4:Nat)(x:OpM×Bs×Bool):List HP:=[pt b4 x.1.cells opT,pt b2 (OpM.cells ⟨0,bT [],bT [],0⟩) opT]
theorem GI.mk'{o:Option (OpM×Bs)}{n:Nat}{p:OpM}{r:Bs}{ok:Bool}(hl:r.length≤n)(h1:ok=true→o=some (p,r))(h2:ok=false→o=none):GI o n (p,r,ok):=by
 cases ok with
 | true=>exact GI.yes (h1 rfl) hl
 | false=>exact GI.no (h2 rfl) hl
theorem oget_spec(s:Bs)(hs:s.length≤1000000):Tri Tryz.prog 243 [.string (bT s)] Fr w [] (fun v L=>v=goV (getO s)∧L=[]):=by
 refine TF 63 Tryz.func243 rfl ym tabOk rfl rfl ?_
 refine CS (CG (VG (VO.alloc rfl fun b2=>?_)))
 refine xjp ?_
 refine VG (VO.alloc rfl fun b4=>?_)
 refine xjp ?_
 obtain⟨k,r,ok,hv,hrl,hk1,hk2⟩:=un_get s
 refine VG (VV (fun Fr w hF hw _=>hv▸unint_spec Fr w s hs) rfl ?_)
 refine xjq ?_
 refine VG (VO.st 0 (cs':=OpM.cells ⟨k,bT [],bT [],0⟩) rfl rfl rfl rfl (by show 0<4;omega) rfl rfl ?_)
 refine xjq ?_
 have hI:GI (g1 s) s.length (⟨k,bT [],bT [],0⟩,r,ok):=GI.mk' hrl (fun h=>by rw[g1,hk1 h];rfl) (fun h=>by rw[g1,hk2 h];rfl)
 clear hk1 hk2 hv
 refine VC.meetS (gE b2 b4) (gH b2 b4) (GI (g2 s) s.length) ?_ ?_
 ·refine CC rfl (fun h=>?_) (fun h=>CK ?_)
  ·subst h
   obtain⟨a,q,ok,hv,hql,hk1,hk2⟩:=ct_get r
   refine xjq ?_
   refine xkf ?_
   refine xjq ?_
   refine VG (VO.st 0 (cs':=OpM.cells ⟨k,bT a,bT [],0⟩) rfl rfl rfl rfl (by show 1<4;omega) rfl rfl ?_)
   refine xjq ?_
   refine⟨(⟨k,bT a,bT [],0⟩,q,ok),GI.mk' yd (fun h=>by rw[g2,hI.t];show(cutB r).map _=_;rw[hk1 h];rfl) (fun h=>by rw[g2,hI.t];show(cutB r).map _=_;rw[hk2 h];rfl),sbZ,ER⟩
  ·subst h
   exact⟨(⟨k,bT [],bT [],0⟩,r,false),GI.no (by rw[g2,hI.f];rfl) hrl,sbZ,ER⟩
 clear hI hrl
 rintro⟨p,r,ok⟩ hI
 refine CS (VC.meetS (gE b2 b4) (gH b2 b4) (GI (g3 s) s.length) ?_ ?_)
 ·cases ok with
  | false=>
   refine xjq ?_
   refine VG (VY 25 false rfl rfl ?_)
   refine zop ?_
   exact⟨(p,r,false),GI.no (by rw[g3,hI.f];rfl) hI.len,sbZ,ER⟩
  | true=>
   have hrl:r.length≤s.length:=hI.len
   refine xjq ?_
   refine VG (VY 25 true rfl rfl ?_)
   refine xdn ?_
   refine VG (VV (fun Fr w hF hw _=>valued_spec Fr w p.kind) rfl ?_)
   refine xjq ?_
   refine CC rfl (fun h=>?_) (fun h=>CK ?_)
   ·obtain⟨a,q,ok,hv,hql,hk1,hk2⟩:=ct_get r
    have e:g3 s=(cutB r).map fun y=>({ p with value:=bT y.1 },y.2):=by rw[g3,hI.t];exact if_pos h
    refine xjq ?_
    refine xkf ?_
    refine xjq ?_
    refine VG (VO.st 0 (cs':=OpM.cells { p with value:=bT a }) rfl rfl rfl rfl (by show 2<4;omega) rfl rfl ?_)
    refine xjq ?_
    exact⟨({ p with value:=bT a },q,ok),GI.mk' yd (fun h=>by rw[e,hk1 h];rfl) (fun h=>by rw[e,hk2 h];rfl),sbZ,ER⟩
   ·exact⟨(p,r,true),GI.yes (by rw[g3,hI.t];exact if_neg (by rw[show valB p.kind=false from h];decide)) hrl,sbZ,ER⟩
 clear hI
 clear p r ok
 rintro⟨p,r,ok⟩ hI
 refine CS (VC.meetS (gE b2 b4) (gH b2 b4) (GI (g4 s) s.length) ?_ ?_)
 ·cases ok with
  | false=>
   refine xjq ?_
   refine VG (VY 38 false rfl rfl ?_)
   refine zop ?_
   exact⟨(p,r,false),GI.no (by rw[g4,hI.f];rfl) hI.len,sbZ,ER⟩
  | true=>
   have hrl:r.length≤s.length:=hI.len
   refine xjq ?_
   refine VG (VY 38 true rfl rfl ?_)
   refine xdn ?_
   refine CE rfl (fun h=>?_) (fun h=>CK ?_)
   ·obtain⟨k,q,ok,hv,hql,hk1,hk2⟩:=un_get r
    have e:g4 s=(unintB r).map fun y=>({ p with version:=y.1 },y.2):=by rw[g4,hI.t];exact if_pos h
    refine xjq ?_
    refine VG (VV (fun Fr w hF hw _=>hv▸unint_spec Fr w r yd) rfl ?_)
    refine xjq ?_
    refine VG (VO.st 0 (cs':=OpM.cells { p with version:=k }) rfl rfl rfl rfl (by show 3<4;omega) rfl rfl ?_)
    refine xjq ?_
    exact⟨({ p with version:=k },q,ok),GI.mk' yd (fun h=>by rw[e,hk1 h];rfl) (fun h=>by rw[e,hk2 h];rfl),sbZ,ER⟩
   ·exact⟨(p,r,true),GI.yes (by rw[g4,hI.t];exact if_neg h) hrl,sbZ,ER⟩
 clear hI
 clear p r ok
 rintro⟨p,r,ok⟩ hI
 refine xjq ?_
 cases ok with
 | false=>
  refine VG (VY 52 true rfl rfl ?_)
  refine xjq ?_
  refine VG (VY 56 true rfl rfl ?_)
  refine zos ?_
  refine xkg ?_
  refine xkh ?_
  refine xjq ?_
  exact CR (Ret.cellTmp 2 3 rfl rfl rfl (RdL.many (ds:=OpM.cells ⟨0,bT [],bT [],0⟩) 1 rfl rfl) rfl Imp.nil.ent ⟨by rw[getO_eq,hI.f];rfl,rfl⟩)
 | true=>
 refine VG (VY 52 false rfl rfl ?_)
 refine xjq ?_
 by_cases hr:r=[]
 rotate_left
 ·refine VG (VY 56 true rfl (by rw[show(ByteArray.mk #[])=bT [] from rfl,bT_eq,DF hr];rfl) ?_)
  refine zos ?_
  refine xkg ?_
  refine xkh ?_
  refine xjq ?_
  exact CR (Ret.cellTmp 2 3 rfl rfl rfl (RdL.many (ds:=OpM.cells ⟨0,bT [],bT [],0⟩) 1 rfl rfl) rfl Imp.nil.ent ⟨by rw[getO_eq,hI.t,Option.bind_some,if_neg (fun h=>hr h.1)];rfl,rfl⟩)
 refine VG (VY 56 false rfl (by rw[show(ByteArray.mk #[])=bT [] from rfl,bT_eq,DT hr];rfl) ?_)
 refine xdn ?_
 refine VG (VL 0 p.cells rfl rfl rfl rfl ?_)
 refine VG (VV (fun Fr w hF hw _=>Api.check_spec Fr w p) rfl ?_)
 refine xjq ?_
 refine VC.condNE rfl (fun hc=>?_) (fun hc=>CK ?_)
 ·refine xjq ?_
  refine xkg ?_
  refine xkh ?_
  refine xjq ?_
  exact CR (Ret.cellTmp 2 3 rfl rfl rfl (RdL.many (ds:=OpM.cells ⟨0,bT [],bT [],0⟩) 1 rfl rfl) rfl Imp.nil.ent ⟨by rw[getO_eq,hI.t,Option.bind_some,if_neg (fun h=>hc h.2)];rfl,rfl⟩)
 refine xdn ?_
 refine VG (VL 0 p.cells rfl rfl rfl rfl ?_)
 refine VG (VT (vs:=p.cells) (cs':=p.cells) 1 rfl rfl rfl rfl (NR _) rfl rfl rfl ?_)
 refine xjq ?_
 exact CR (Ret.cellTmp 2 3 rfl rfl rfl (RdL.many (ds:=p.cells) 1 rfl rfl) rfl Imp.nil.ent ⟨by rw[getO_eq,hI.t,Option.bind_some,if_pos ⟨hr,hc⟩];rfl,rfl⟩)
end Cl
namespace Cl
open Go Vg T Api Ch
attribute [local irreducible] VO VC VA
theorem ch_ok{c:ChM}(h:chE c=0):chOk c=true:=by
 unfold chE at h
 by_cases hc:chOk c=true
 ·exact hc
 ·rw[if_neg hc] at h;exact absurd h yo
theorem ch_size{c:ChM}(h:chE c=0):1≤c.ms.length∧c.ms.length≤6∧1≤c.epoch∧c.epoch≤1099511627776:=by
 have:=ch_ok h
 simp[chOk,headOk] at this
 omega
def memB(m:MemM):Bs:=intB m.1++intB m.2
theorem memB_len(m:MemM):(memB m).length≤18:=by
 have:=intB_len m.1
 have:=intB_len m.2
 rw[memB,List.length_append];omega
theorem mems_len:∀ms:List MemM,(ms.flatMap memB).length≤18*ms.length
 | []=>NR _
 | m::ms=>by
  have:=memB_len m
  have:=mems_len ms
  rw[List.flatMap_cons,List.length_append,List.length_cons];omega
theorem chB_len{c:ChM}(h:chE c=0):(chB c).length≤135:=by
 obtain⟨h1,h2,_⟩:=ch_size h
 have a:=intB_len c.epoch
 have b:=intB_len (c.ms.length:Int)
 have d:=intB_len c.drain
 have m:=mems_len c.ms
 show(intB c.epoch++intB c.ms.length++c.ms.flatMap memB++intB c.drain).length≤_
 simp only[List.length_append];omega
theorem cput_spec{c:ChM}{a:Option Addr}{cap:Nat}(h:RwIn memC 2 Fr w a c.ms)(hl:c.ms.length≤1000000):Tri Tryz.prog 226 [.agg (c.cells a cap).toArray] Fr w [] (fun v L=>v=.tuple #[.string (bT (if chE c=0 then chB c else [])),.int .i64 (chE c)]∧L=[]):=by
 refine TF 43 Tryz.func226 rfl ym tabOk rfl rfl ?_
 refine CS (CG (VG (VB (vs:=c.cells a cap) rfl fun b=>VG (VN ?_))))
 refine xjp ?_
 refine xdq ?_
 refine xki ?_
 refine xjp ?_
 refine VC.condNE rfl (fun h2=>?_) (fun h2=>CK ?_)
 ·refine xjp ?_
  exact CR (Ret.tmp2 2 3 rfl rfl rfl Imp.nil.ent ⟨by rw[if_neg h2];rfl,rfl⟩)
 rw[if_pos h2,h2]
 obtain⟨h3,h4,_⟩:=ch_size h2
 have l1:=intB_len c.epoch
 have l2:=intB_len (c.ms.length:Int)
 have l3:=intB_len c.drain
 have l4:=mems_len c.ms
 refine xjp ?_
 refine CD (ts 0 2 (ts 3 3 (.only 2 (.only 6 (ts 7 2 .nil))))) ym yr ?_
 refine xeh ?_
 refine AG (AR (fun Fr w hF hs hS=>int_spec Fr w c.epoch) rfl rfl yu ?_)
 refine AG (AR (fun Fr w hF hs hS=>int_spec Fr w c.ms.length) rfl rfl yu ?_)
 refine xkd ?_
 rw[←bT_app]
 refine zpr ?_
 refine VC.loop (σ:=Nat) (fun k=>[(1,pV b),(22,.slice a c.ms.length cap),(23,.int .i64 c.ms.length),(24,.int .i64 (k:Int)),(5,.string (bT (intB c.epoch++intB c.ms.length++(c.ms.take k).flatMap memB)))]) (fun _=>[pt b (c.cells a cap) chT]) (fun k=>k≤c.ms.length) (fun k=>c.ms.length-k) 0
  (Nat.zero_le _) (SC rfl (SC rfl (SC rfl (SC rfl (SC ybk (SN _)))))) ER ?_
 rintro k hk
 refine xjp ?_
 refine CP (p:=(k:Int)<c.ms.length) rfl (fun h5=>CK ?_) (fun h5=>CX ?_)
 ·obtain⟨m,hm⟩:∃m,c.ms[k]?=some m:=⟨_,GE yd⟩
  obtain⟨mb,mo,hma,ra,rc⟩:=RwIn.rd (X:=⟨Tryz.prog,tab,tabOk,43,Fr,w⟩) h hm
  subst hma
  have e:(c.ms.take (k+1)).flatMap memB=(c.ms.take k).flatMap memB++(intB m.1++intB m.2):=by rw[List.take_add_one,hm,List.flatMap_append];simp[memB]
  have l5:=mems_len (c.ms.take k)
  rw[List.length_take] at l5
  have l6:=intB_len m.1
  have l7:=intB_len m.2
  refine zov ?_
  refine xdk ?_
  refine VG (VO.alloc rfl fun b7=>?_)
  refine VG (VT (vs:=memC m) (cs':=memC m) 0 rfl rfl rfl rfl (NR _) rfl rfl rfl ?_)
  refine xjp ?_
  refine CD (ts 0 3 (ts 4 2 (.only 3 (.only 6 (ts 7 3 .nil))))) ym yr ?_
  refine xeh ?_
  refine AG (AR (fun Fr w hF hs hS=>int_spec Fr w m.1) rfl rfl yu ?_)
  refine AG (AR (fun Fr w hF hs hS=>int_spec Fr w m.2) rfl rfl yu ?_)
  refine xkd ?_
  refine AG (AI rfl (light_cat rfl rfl (by rw[ByteArray.size_append,bT_size,bT_size,bT_size];simp only[List.length_append];omega)) ?_)
  rw[←bT_app,←bT_app]
  refine xeh ?_
  refine zom ?_
  refine⟨k+1,by omega,by dsimp only;omega,SC rfl (SC rfl (SC rfl (Sub.int rfl yd (SC ybl (SN _))))),(IP 1 rfl Imp.nil).ent⟩
 obtain rfl:k=c.ms.length:=by omega
 rw[List.take_length]
 refine xdf ?_
 refine VG (VV (fun Fr w hF hw _=>int_spec Fr w c.drain) rfl ?_)
 refine xke ?_
 rw[←bT_app]
 refine xdf ?_
 exact CR (Ret.tmp2 2 3 rfl rfl rfl Imp.nil.ent ⟨rfl,rfl⟩)
end Cl
namespace Cl
open Go Vg T Api Ch
attribute [local irreducible] VO VC VA
def furtherC(c:ChM):ChM×Int:=if furtherE c≠0 then (chNil,2) else (⟨c.epoch+1,c.ms,c.drain⟩,0)
def chQ(r:ChM×Int)(v:Value)(L:List HP):Prop:=∃a c,v=.tuple #[.agg (r.1.cells a c).toArray,.int .i64 r.2]∧L=[slH memT 2 a r.1.ms.length c (flat memC r.1.ms)]
theorem fur_0{c:ChM}(h:furtherE c=0):chE c=0∧c.epoch≠1099511627776:=by
 unfold furtherE at h
 split at h
 ·exact absurd h yo
 ·rename_i k
  exact⟨Classical.byContradiction fun e=>k (.inl e),fun e=>k (.inr e)⟩
section
variable {c:ChM} {a:Option Addr} {cap:Nat}
theorem further_spec(h:RwIn memC 2 Fr w a c.ms)(hl:c.ms.length≤1000000):Tri Tryz.prog 200 [.agg (c.cells a cap).toArray] Fr w [] (chQ (furtherC c)):=by
 refine TF 22 Tryz.func200 rfl ym tabOk rfl rfl ?_
 refine CS (CG (VG (VB (vs:=c.cells a cap) rfl fun b=>VG (VO.alloc rfl fun b2=>?_))))
 refine xjp ?_
 refine xef ?_
 refine xki ?_
 refine xjq ?_
 have bad:∀{X:Cx} {E:Env} {fn:Func} {ti:TI} {L:List HP},fn.results=#[.cell 2 chT,.tmp 3]→Vg.look E 2=some (.pointer (some ⟨b2,0,none⟩))→Vg.look E 3=some (.int .i64 2)→tyLook X.tab chT=some ti→ti.und.agg=true→ti.size=3→furtherE c≠0→Ret X fn (chQ (furtherC c)) E (pt b2 (chNil.cells none 0) chT::L):=fun h1 h2 h3 h4 h5 h6 h7=>
  Ret.cellTmp 2 3 h1 h2 h4 (RdL.many (ds:=chNil.cells none 0) 0 rfl (by rw[h6];rfl) (by rw[h6];rfl) h5) h3 (Imp.slNil Imp.nil).ent (by rw[furtherC,if_pos h7];exact⟨none,0,rfl,rfl⟩)
 by_cases h1:chE c=0
 rotate_left
 ·have hf:furtherE c≠0:=by rw[furtherE,if_pos (.inl h1)];decide
  refine VG (VY 7 true rfl (by rw[bne_iff_ne];exact h1) ?_)
  refine zos ?_
  refine xkj ?_
  refine xkk ?_
  refine xjq ?_
  exact CR (bad rfl rfl rfl rfl rfl rfl hf)
 obtain⟨g1,g2,g3,g4⟩:=ch_size h1
 refine VG (VY 7 false rfl (by rw[bne_eq_false_iff_eq];exact h1) ?_)
 refine xdx ?_
 refine CE rfl (fun h2=>?_) (fun h2=>CK ?_)
 ·have hf:furtherE c≠0:=by rw[furtherE,if_pos (.inr h2)];decide
  refine zpm ?_
  refine xkk ?_
  refine xjq ?_
  exact CR (bad rfl rfl rfl rfl rfl rfl hf)
 have hf:furtherE c=0:=by rw[furtherE,if_neg (by simp[h1,h2])]
 refine xjq ?_
 refine CD (ts 0 5 (ts 6 2 (.only 5 (.take 8 (.only 9 (.take 10 .nil)))))) ym yr ?_
 refine xgc ?_
 refine xeo ?_
 refine xgc ?_
 refine AG (AO (OC (Lc:=[]) (Lr:=[pt b2 (chNil.cells none 0) chT,pt b (c.cells a cap) chT]) rfl (.refl _) (fun Fr w hF hs hS=>mclone_spec Fr w (h.of hF hs) hl)) rfl (fun v L' g=>by obtain⟨_,⟨_,_,rfl,rfl⟩,rfl⟩:=g;exact yu) ?_)
 rintro _ _ ⟨_,⟨ma,mc,rfl,rfl⟩,rfl⟩
 refine AG (AI rfl (LB (pv:=[(0,.int .i64 (c.epoch+1)),(1,.slice ma c.ms.length mc),(2,.int .i64 c.drain)]) ((ChM.mk (c.epoch+1) c.ms c.drain).cells ma mc) rfl rfl rfl ym rfl) ?_)
 refine AG (AT (vs:=(ChM.mk (c.epoch+1) c.ms c.drain).cells ma mc) (cs':=(ChM.mk (c.epoch+1) c.ms c.drain).cells ma mc) 1 rfl rfl rfl rfl rfl (NR _) rfl rfl rfl yu ?_)
 refine xjs ?_
 exact CR (Ret.cellTmp 2 3 rfl rfl rfl (RdL.many (ds:=(ChM.mk (c.epoch+1) c.ms c.drain).cells ma mc) 1 rfl rfl) rfl (L':=[slH memT 2 ma c.ms.length mc (flat memC c.ms)]) (IP 0 rfl Imp.nil).ent (by rw[furtherC,if_neg ybm];exact⟨ma,mc,rfl,rfl⟩))
theorem leaving_spec(h:RwIn memC 2 Fr w a c.ms)(hl:c.ms.length≤1000000)(n:Int):Tri Tryz.prog 201 [.agg (c.cells a cap).toArray,.int .i64 n] Fr w []
  (fun v L=>v=.tuple #[.int .i64 (if leavingE c n≠0 then 0 else placeOf c.ms n),.int .i64 (leavingE c n)]∧L=[]):=by
 refine TF 19 Tryz.func201 rfl ym tabOk rfl rfl ?_
 refine CS (CG (VG (VB (vs:=c.cells a cap) rfl fun b=>?_)))
 refine xjp ?_
 refine xdq ?_
 refine xdr ?_
 rintro _ _ ⟨pb,rfl,rfl⟩
 refine xjp ?_
 refine xee ?_
 refine xjp ?_
 refine CP rfl (fun h1=>?_) (fun h1=>?_)
 ·refine xjp ?_
  exact CR (Ret.tmp2 4 5 rfl rfl rfl Imp.nil.ent ⟨by rw[leavingE,if_pos h1];rfl,rfl⟩)
 refine xjp ?_
 refine xgk ?_
 refine xjp ?_
 refine CE rfl (fun h2=>?_) (fun h2=>CK ?_)
 ·have h2:c.ms.length=1:=by omega
  refine xjp ?_
  exact CR (Ret.tmp2 4 5 rfl rfl rfl Imp.nil.ent ⟨by rw[leavingE,if_neg h1,if_pos h2];rfl,rfl⟩)
 have h2:¬c.ms.length=1:=by omega
 refine xjp ?_
 exact CR (Ret.tmp2 4 5 rfl rfl rfl Imp.nil.ent ⟨by rw[leavingE,if_neg h1,if_neg h2];rfl,rfl⟩)
end
end Cl
namespace Cl
open Go Vg T Api Ch
attribute [local irreducible] VO VC VA
def dCc(ep:Int)(a:Value)(dr:Int):List Value:=[.int .i64 ep,a,.int .i64 dr]
section
variable {c:ChM} {a:Option Addr} {cap:Nat}
theorem with_spec(h:RwIn memC 2 Fr w a c.ms)(hl:c.ms.length≤1000000)(n:Int):Tri Tryz.prog 187 [.agg (c.cells a cap).toArray,.int .i64 n] Fr w [] (chQ (withC c n)):=by
 have hpl:=place_range c.ms n
 refine TF 38 Tryz.func187 rfl ym tabOk rfl rfl ?_
 refine CS (CG (VG (VB (vs:=c.cells a cap) rfl fun b=>VG (VO.alloc rfl fun b4=>?_))))
 refine xjp ?_
 refine xef ?_
 refine xkl ?_
 rintro _ _ ⟨ma,mc,rfl,rfl⟩
 by_cases hf:furtherE c=0
 rotate_left
 ·have hf2:furtherC c=(chNil,2):=by rw[furtherC,if_pos hf]
  rw[hf2]
  refine xjq ?_
  refine xkm ?_
  refine xjq ?_
  refine VC.condNE rfl (fun _=>?_) (fun e=>absurd e yo)
  refine zpm ?_
  refine xjq ?_
  refine zqc ?_
  exact CR (Ret.cellTmp 4 5 rfl rfl rfl (RdL.many (ds:=chNil.cells none 0) 1 rfl rfl) rfl (L':=[slH memT 2 none 0 0 (flat memC [])]) (Imp.slNil Imp.nil).ent (by rw[withC,if_pos hf];exact⟨none,0,rfl,rfl⟩))
 have hf2:furtherC c=(⟨c.epoch+1,c.ms,c.drain⟩,0):=by rw[furtherC,if_neg ybm]
 obtain⟨hce,hep⟩:=fur_0 hf
 obtain⟨g1,g2,g3,g4⟩:=ch_size hce
 have hM:¬furtherE c≠0:=by rw[hf];decide
 rw[hf2]
 refine xjq ?_
 refine xko ?_
 refine xjq ?_
 refine VC.condNE rfl (fun e=>absurd rfl e) (fun _=>?_)
 refine xjq ?_
 refine VG (VV (fun Fr w hF hw _=>Ch.node_spec Fr w n) rfl ?_)
 refine xjq ?_
 refine VC.condN rfl (fun h2=>?_) (fun h2=>?_)
 ·refine zpm ?_
  refine zqc ?_
  exact CR (Ret.cellTmp 4 5 rfl rfl rfl (RdL.many (ds:=chNil.cells none 0) 1 rfl rfl) rfl (L':=[slH memT 2 none 0 0 (flat memC [])]) (Imp.slNil Imp.nil).ent (by rw[withC,if_neg hM,if_pos h2];exact⟨none,0,rfl,rfl⟩))
 refine xjq ?_
 refine xkp ?_
 refine xdr ?_
 rintro _ _ ⟨pb,rfl,rfl⟩
 refine xjq ?_
 refine xee ?_
 refine xjq ?_
 refine CP (p:=0≤placeOf c.ms n) rfl (fun h3=>?_) (fun h3=>CK ?_)
 ·refine zpm ?_
  refine VG (VT (vs:=chNil.cells none 0) (cs':=chNil.cells none 0) 2 rfl rfl rfl rfl (NR _) rfl rfl rfl ?_)
  refine xjq ?_
  exact CR (Ret.cellTmp 4 5 rfl rfl rfl (RdL.many (ds:=chNil.cells none 0) 2 rfl rfl) rfl (L':=[slH memT 2 none 0 0 (flat memC [])]) (Imp.slNil Imp.nil).ent (by rw[withC,if_neg hM,if_neg (by rw[h2];decide),if_pos h3];exact⟨none,0,rfl,rfl⟩))
 refine xdv ?_
 refine VG (VI (LB (pv:=[(0,.int .i64 n),(1,.int .i64 (c.epoch+1))]) (memC (n,c.epoch+1)) rfl rfl rfl ym rfl) ?_)
 refine VG (VO.buildSlice (pv:=[(0,.agg (memC (n,c.epoch+1)).toArray)]) (memC (n,c.epoch+1)) rfl rfl rfl rfl yo (fill_one rfl rfl rfl) fun sb=>?_)
 refine VG (VO.append (m:=1) (news:=memC (n,c.epoch+1)) 2 rfl rfl rfl rfl rfl rfl rfl (RdRow.pt 0 rfl rfl rfl) rfl (by show(c.ms.length+1)*16≤_;omega) (by show c.ms.length+1≤_;omega) fun a2 c2 hc2=>?_)
 have hlen:(c.ms ++ [(n,c.epoch+1)]).length=c.ms.length+1:=by simp
 have hcc:dCc (c.epoch+1) (.slice a2 (c.ms.length+1) c2) c.drain=(ChM.mk (c.epoch+1) (c.ms ++ [(n,c.epoch+1)]) c.drain).cells a2 c2:=by unfold dCc ChM.cells;rw[hlen]
 refine xjq ?_
 refine VG (VO.st 3 (cs':=dCc (c.epoch+1) (.slice a2 (c.ms.length+1) c2) c.drain) rfl rfl rfl rfl yad rfl rfl ?_)
 rw[hcc]
 refine xjq ?_
 refine VG (VL 3 ((ChM.mk (c.epoch+1) (c.ms ++ [(n,c.epoch+1)]) c.drain).cells a2 c2) rfl rfl rfl rfl ?_)
 refine VG (VT (vs:=(ChM.mk (c.epoch+1) (c.ms ++ [(n,c.epoch+1)]) c.drain).cells a2 c2) (cs':=(ChM.mk (c.epoch+1) (c.ms ++ [(n,c.epoch+1)]) c.drain).cells a2 c2) 3 rfl rfl rfl rfl (NR _) rfl rfl rfl ?_)
 refine xjq ?_
 have hW:withC c n=(⟨c.epoch+1,c.ms ++ [(n,c.epoch+1)],c.drain⟩,0):=by rw[withC,if_neg hM,if_neg (by rw[h2];decide),if_neg h3]
 exact CR (Ret.cellTmp 4 5 rfl rfl rfl (RdL.many (ds:=(ChM.mk (c.epoch+1) (c.ms ++ [(n,c.epoch+1)]) c.drain).cells a2 c2) 3 rfl rfl) rfl (L':=[slH memT 2 a2 (c.ms ++ [(n,c.epoch+1)]).length c2 (flat memC (c.ms ++ [(n,c.epoch+1)]))]) (by rw[hlen,flat_append];exact(IP 0 rfl Imp.nil).ent) ybn)
theorem without_spec(h:RwIn memC 2 Fr w a c.ms)(hl:c.ms.length≤1000000)(n:Int):Tri Tryz.prog 179 [.agg (c.cells a cap).toArray,.int .i64 n] Fr w [] (chQ (withoutC c n)):=by
 have hpl:=place_range c.ms n
 refine TF 39 Tryz.func179 rfl ym tabOk rfl rfl ?_
 refine CS (CG (VG (VB (vs:=c.cells a cap) rfl fun b=>VG (VO.alloc rfl fun b4=>?_))))
 refine xjp ?_
 refine xef ?_
 refine xkl ?_
 rintro _ _ ⟨ma,mc,rfl,rfl⟩
 by_cases hf:furtherE c=0
 rotate_left
 ·have hf2:furtherC c=(chNil,2):=by rw[furtherC,if_pos hf]
  rw[hf2]
  refine xjq ?_
  refine xkm ?_
  refine xjq ?_
  refine VC.condNE rfl (fun _=>?_) (fun e=>absurd e yo)
  refine zpm ?_
  refine xjq ?_
  refine zqc ?_
  exact CR (Ret.cellTmp 4 5 rfl rfl rfl (RdL.many (ds:=chNil.cells none 0) 1 rfl rfl) rfl (L':=[slH memT 2 none 0 0 (flat memC [])]) (Imp.slNil Imp.nil).ent (by rw[withoutC,if_pos hf];exact⟨none,0,rfl,rfl⟩))
 have hf2:furtherC c=(⟨c.epoch+1,c.ms,c.drain⟩,0):=by rw[furtherC,if_neg ybm]
 obtain⟨hce,hep⟩:=fur_0 hf
 obtain⟨g1,g2,g3,g4⟩:=ch_size hce
 have hM:¬furtherE c≠0:=by rw[hf];decide
 rw[hf2]
 refine xjq ?_
 refine xko ?_
 refine xjq ?_
 refine VC.condNE rfl (fun e=>absurd rfl e) (fun _=>CK ?_)
 refine xjq ?_
 refine xkp ?_
 refine xkq ?_
 by_cases hlv:leavingE c n=0
 rotate_left
 ·rw[if_pos hlv]
  refine xjq ?_
  refine VC.condNE rfl (fun _=>?_) (fun e=>absurd e hlv)
  refine zpm ?_
  refine xjq ?_
  refine zqc ?_
  exact CR (Ret.cellTmp 4 5 rfl rfl rfl (RdL.many (ds:=chNil.cells none 0) 1 rfl rfl) rfl (L':=[slH memT 2 none 0 0 (flat memC [])]) (Imp.slNil Imp.nil).ent (by rw[withoutC,if_neg hM,if_pos hlv];exact⟨none,0,rfl,rfl⟩))
 have hpp:¬placeOf c.ms n<0∧¬c.ms.length=1:=by
  unfold leavingE at hlv
  by_cases p:placeOf c.ms n<0
  ·rw[if_pos p] at hlv;exact absurd hlv yo
  ·refine⟨p,fun e=>?_⟩
   rw[if_neg p,if_pos e] at hlv;exact absurd hlv yo
 obtain⟨i,hi,hil⟩:∃i:Nat,placeOf c.ms n=i∧i<c.ms.length:=by
  rcases hpl with e | ⟨i,m,e,h2,_⟩
  ·omega
  ·exact⟨i,e,h2⟩
 rw[if_neg ybo,hi]
 refine xjq ?_
 refine VC.condNE rfl (fun e=>absurd hlv e) (fun _=>CK ?_)
 refine xdx ?_
 refine xdl ?_
 refine VG (VK (Lc:=[slH memT 2 ma c.ms.length mc (flat memC c.ms)]) (fun Fr w hF hw _=>mdelete_spec Fr w (l:=c.ms) hil yd) rfl rfl ?_)
 rintro _ _ ⟨a2,c2,rfl,rfl⟩
 refine xjq ?_
 refine VG (VO.st 1 (cs':=(ChM.mk (c.epoch+1) (c.ms.eraseIdx i) c.drain).cells a2 c2) rfl rfl rfl rfl yad rfl rfl (VG (VN ?_)))
 refine CS (VC.meetS (σ:=Int) (fun d=>[(4,pV b4)]) (fun d=>[slH memT 2 a2 (c.ms.eraseIdx i).length c2 (flat memC (c.ms.eraseIdx i)),pt b4 ((ChM.mk (c.epoch+1) (c.ms.eraseIdx i) d).cells a2 c2) chT]) (fun d=>d=if c.drain=n then -1 else c.drain) ?_ ?_)
 ·refine xdx ?_
  refine CE rfl (fun h5=>?_) (fun h5=>CK ?_)
  ·refine xjq ?_
   refine VG (VO.st 1 (cs':=(ChM.mk (c.epoch+1) (c.ms.eraseIdx i) (-1)).cells a2 c2) rfl rfl rfl rfl yac rfl rfl ?_)
   refine xjq ?_
   exact⟨-1,by rw[if_pos h5],sbZ,(pkZ [0,0]).ent⟩
  ·exact⟨c.drain,by rw[if_neg h5],sbZ,(pkZ [0,0]).ent⟩
 rintro d hd
 have hW:withoutC c n=(⟨c.epoch+1,c.ms.eraseIdx i,d⟩,0):=by rw[withoutC,if_neg hM,if_neg ybo,hi,hd];rfl
 refine xjq ?_
 refine VG (VL 1 ((ChM.mk (c.epoch+1) (c.ms.eraseIdx i) d).cells a2 c2) rfl rfl rfl rfl ?_)
 refine VG (VT (vs:=(ChM.mk (c.epoch+1) (c.ms.eraseIdx i) d).cells a2 c2) (cs':=(ChM.mk (c.epoch+1) (c.ms.eraseIdx i) d).cells a2 c2) 1 rfl rfl rfl rfl (NR _) rfl rfl rfl ?_)
 refine xjq ?_
 exact CR (Ret.cellTmp 4 5 rfl rfl rfl (RdL.many (ds:=(ChM.mk (c.epoch+1) (c.ms.eraseIdx i) d).cells a2 c2) 1 rfl rfl) rfl (L':=[slH memT 2 a2 (c.ms.eraseIdx i).length c2 (flat memC (c.ms.eraseIdx i))]) (IP 0 rfl Imp.nil).ent ybn)
theorem drain_spec(h:RwIn memC 2 Fr w a c.ms)(hl:c.ms.length≤1000000)(n:Int):Tri Tryz.prog 134 [.agg (c.cells a cap).toArray,.int .i64 n] Fr w [] (chQ (drainC c n)):=by
 have hpl:=place_range c.ms n
 refine TF 32 Tryz.func134 rfl ym tabOk rfl rfl ?_
 refine CS (CG (VG (VB (vs:=c.cells a cap) rfl fun b=>VG (VO.alloc rfl fun b4=>?_))))
 refine xjp ?_
 refine xef ?_
 refine xkl ?_
 rintro _ _ ⟨ma,mc,rfl,rfl⟩
 by_cases hf:furtherE c=0
 rotate_left
 ·have hf2:furtherC c=(chNil,2):=by rw[furtherC,if_pos hf]
  rw[hf2]
  refine xjq ?_
  refine xkm ?_
  refine xjq ?_
  refine VC.condNE rfl (fun _=>?_) (fun e=>absurd e yo)
  refine zpm ?_
  refine xjq ?_
  refine zqc ?_
  exact CR (Ret.cellTmp 4 5 rfl rfl rfl (RdL.many (ds:=chNil.cells none 0) 1 rfl rfl) rfl (L':=[slH memT 2 none 0 0 (flat memC [])]) (Imp.slNil Imp.nil).ent (by rw[drainC,if_pos hf];exact⟨none,0,rfl,rfl⟩))
 have hf2:furtherC c=(⟨c.epoch+1,c.ms,c.drain⟩,0):=by rw[furtherC,if_neg ybm]
 obtain⟨hce,hep⟩:=fur_0 hf
 obtain⟨g1,g2,g3,g4⟩:=ch_size hce
 have hM:¬furtherE c≠0:=by rw[hf];decide
 rw[hf2]
 refine xjq ?_
 refine xko ?_
 refine xjq ?_
 refine VC.condNE rfl (fun e=>absurd rfl e) (fun _=>CK ?_)
 refine xjq ?_
 refine xkp ?_
 refine xkq ?_
 by_cases hlv:leavingE c n=0
 rotate_left
 ·rw[if_pos hlv]
  refine xjq ?_
  refine VC.condNE rfl (fun _=>?_) (fun e=>absurd e hlv)
  refine zpm ?_
  refine xjq ?_
  refine zqc ?_
  exact CR (Ret.cellTmp 4 5 rfl rfl rfl (RdL.many (ds:=chNil.cells none 0) 1 rfl rfl) rfl (L':=[slH memT 2 none 0 0 (flat memC [])]) (Imp.slNil Imp.nil).ent (by rw[drainC,if_neg hM,if_pos hlv];exact⟨none,0,rfl,rfl⟩))
 rw[if_neg ybo]
 refine xjq ?_
 refine VC.condNE rfl (fun e=>absurd hlv e) (fun _=>CK ?_)
 refine xjq ?_
 refine VG (VO.ld 2 rfl rfl rfl rfl ?_)
 refine xjq ?_
 refine VC.condNE rfl (fun h5=>?_) (fun h5=>CK ?_)
 ·refine zpm ?_
  refine zqc ?_
  exact CR (Ret.cellTmp 4 5 rfl rfl rfl (RdL.many (ds:=chNil.cells none 0) 1 rfl rfl) rfl (L':=[slH memT 2 none 0 0 (flat memC [])]) (Imp.slNil Imp.nil).ent (by rw[drainC,if_neg hM,if_neg ybo,if_pos h5];exact⟨none,0,rfl,rfl⟩))
 have hW:drainC c n=(⟨c.epoch+1,c.ms,n⟩,0):=by rw[drainC,if_neg hM,if_neg ybo,if_neg yd]
 refine xjq ?_
 refine VG (VO.st 1 (cs':=(ChM.mk (c.epoch+1) c.ms n).cells ma mc) rfl rfl rfl rfl yac rfl rfl ?_)
 refine xjq ?_
 refine VG (VL 1 ((ChM.mk (c.epoch+1) c.ms n).cells ma mc) rfl rfl rfl rfl ?_)
 refine VG (VT (vs:=(ChM.mk (c.epoch+1) c.ms n).cells ma mc) (cs':=(ChM.mk (c.epoch+1) c.ms n).cells ma mc) 1 rfl rfl rfl rfl (NR _) rfl rfl rfl ?_)
 refine xjq ?_
 exact CR (Ret.cellTmp 4 5 rfl rfl rfl (RdL.many (ds:=(ChM.mk (c.epoch+1) c.ms n).cells ma mc) 1 rfl rfl) rfl (L':=[slH memT 2 ma c.ms.length mc (flat memC c.ms)]) (IP 0 rfl Imp.nil).ent (by rw[hW];exact⟨ma,mc,rfl,rfl⟩))
end
end Cl
namespace Cl
open Go Vg T Api Ch Rep
attribute [local irreducible] VO VC VA
abbrev masT:TypeId:=107
def hrdC(m:MasM):List Value:=m.heard.map (Value.int .i64)
def whoC(m:MasM):List Value:=m.whole.map Value.bool
def masCs(m:MasM)(a:Option Addr)(c:Nat):List Value:=[.int .i64 m.nodes,.int .i64 m.patience]++m.ch.cells a c++hrdC m++whoC m
structure MasM.Ok(m:MasM):Prop where
 n0:1≤m.nodes
 n1:m.nodes≤6
 p0:0≤m.patience
 p1:m.patience≤1000000
 ml:m.ch.ms.length≤7
 mr:∀x∈m.ch.ms,0≤x.1∧x.1<6
 hl:m.heard.length=6
 wl:m.whole.length=6
 hr:∀x∈m.heard,0≤x∧x≤1099511627776
abbrev SdG:=SdM×(Option Addr×Nat)
def sdC(x:SdG):List Value:=.int .i64 x.1.1::x.1.2.1.cells (x.2.1,x.1.2.2.length,x.2.2)
theorem sdC_len(x:SdG):(sdC x).length=30:=rfl
def memH(x:SdG):HP:=slH memT 2 x.2.1 x.1.2.2.length x.2.2 (flat memC x.1.2.2)
def sentX(S:List SdM)(v:Value)(L:List HP)(H:List HP):Prop:=∃(X:List SdG) (a:Option Addr) (c:Nat),X.map Prod.fst=S∧v=.slice a X.length c∧L=H++(slH sndT 30 a X.length c (flat sdC X)::X.map memH)
theorem mcopied_spec{c:ChM}{a:Option Addr}{cap:Nat}(h:RwIn memC 2 Fr w a c.ms)(hl:c.ms.length≤1000000):Tri Tryz.prog 52 [.agg (c.cells a cap).toArray] Fr w []
  (fun v L=>∃a' c',v=.agg (c.cells a' c').toArray∧L=[slH memT 2 a' c.ms.length c' (flat memC c.ms)]):=by
 refine TF 8 Tryz.func52 rfl ym tabOk rfl rfl ?_
 refine CS (CG (VG (VB (vs:=c.cells a cap) rfl (fun b=>VG (VO.alloc rfl fun d=>VG (VN ?_))))))
 refine xds ?_
 refine xjc ?_
 refine VG (VO.append (m:=c.ms.length) (news:=flat memC c.ms) 0 rfl rfl rfl rfl rfl rfl rfl (RwIn.row memC_len h) (flat_all memC_one _) yax yd fun a' c' _=>?_)
 rw[Nat.zero_add,List.nil_append]
 refine xdf ?_
 refine xjd ?_
 refine CS (CG (VG (VL 2 (c.cells a' c') rfl rfl rfl rfl (VG (VT (vs:=c.cells a' c') (cs':=c.cells a' c') 1 rfl rfl rfl rfl (NR _) rfl rfl rfl (VG (VN ?_)))))))
 exact xje
theorem mwithin_spec(n:Int):Tri Tryz.prog 123 [.int .i64 n] Fr w [] (fun v L=>v=.int .i64 (tickN n)∧L=[]):=by
 refine TF 6 Tryz.func123 rfl ym tabOk rfl rfl ?_
 refine xjp ?_
 exact CR (Ret.int 2 rfl rfl ybp ER ⟨rfl,rfl⟩)
section
variable {p:Nat} {M:MasM} {a:Option Addr} {c:Nat}
theorem mmade_spec(ok:M.Ok)(h:Blk Fr w p (masCs M a c)):Tri Tryz.prog 51 [.pointer (some ⟨p,0,none⟩)] Fr w [] (fun v L=>v=.bool true∧L=[]):=by
 have:=ok.n0
 refine TF 12 Tryz.func51 rfl ym tabOk rfl rfl ?_
 refine zqd ?_
 refine xjr ?_
 exact CR (Ret.bool (b:=true) 2 rfl rfl (DT yd) ER ⟨rfl,rfl⟩)
theorem misNode_spec(h:Blk Fr w p (masCs M a c))(n:Int):Tri Tryz.prog 186 [.pointer (some ⟨p,0,none⟩),.int .i64 n] Fr w [] (fun v L=>v=.bool (M.isNode n)∧L=[]):=by
 refine TF 15 Tryz.func186 rfl ym tabOk rfl rfl ?_
 refine xjq ?_
 by_cases h1:0≤n
 ·refine VG (VY 7 true rfl (DT h1) ?_)
  refine xjr ?_
  exact CR (Ret.bool 4 rfl rfl (by rw[MasM.isNode,DT h1];rfl) ER ⟨rfl,rfl⟩)
 ·refine VG (VY 7 false rfl (DF h1) ?_)
  refine xjq ?_
  exact CR (Ret.bool 4 rfl rfl (by rw[MasM.isNode,DF h1];rfl) ER ⟨rfl,rfl⟩)
theorem mas_ch:((masCs M a c).drop 2).take 3=M.ch.cells a c:=rfl
theorem mmember_spec(ok:M.Ok)(h:Blk Fr w p (masCs M a c))(hm:RwIn memC 2 Fr w a M.ch.ms)(n:Int):Tri Tryz.prog 131 [.pointer (some ⟨p,0,none⟩),.int .i64 n] Fr w [] (fun v L=>v=.bool (sinceOf M.ch n).2∧L=[]):=by
 have hl:=ok.ml
 refine TF 17 Tryz.func131 rfl ym tabOk rfl rfl ?_
 refine xjq ?_
 refine xkr ?_
 refine xjq ?_
 refine VG (VV (fun Fr w hF hw _=>since_spec Fr w (hm.of hF hw) yd n) rfl ?_)
 refine xjq ?_
 exact xjw
theorem mconfig_spec(ok:M.Ok)(h:Blk Fr w p (masCs M a c))(hm:RwIn memC 2 Fr w a M.ch.ms)(to:Int):Tri Tryz.prog 180 [.pointer (some ⟨p,0,none⟩),.int .i64 to] Fr w []
  (fun v L=>∃g,v=.agg (sdC (cfgS M.ch to,g)).toArray∧L=[memH (cfgS M.ch to,g)]):=by
 have hl:=ok.ml
 refine TF 13 Tryz.func180 rfl ym tabOk rfl rfl ?_
 refine CS (CG (VG (VO.alloc rfl fun d=>?_)))
 refine xjq ?_
 refine xkr ?_
 refine xks ?_
 rintro _ _ ⟨ma,mc,rfl,rfl⟩
 refine VG (VI (LB (pv:=[(0,.int .i64 8),(11,.agg (M.ch.cells ma mc).toArray)]) ((cfgF M.ch).cells (ma,M.ch.ms.length,mc)) rfl rfl rfl ym rfl) ?_)
 refine VG (VI (LB (pv:=[(0,.int .i64 to),(1,.agg ((cfgF M.ch).cells (ma,M.ch.ms.length,mc)).toArray)]) (sdC (cfgS M.ch to,(ma,mc))) rfl rfl rfl ym rfl) ?_)
 refine VG (VT (vs:=sdC (cfgS M.ch to,(ma,mc))) (cs':=sdC (cfgS M.ch to,(ma,mc))) 1 rfl rfl rfl rfl (NR _) rfl rfl rfl ?_)
 refine xjq ?_
 exact CR (Ret.cell 4 rfl rfl rfl (RdL.many 1 rfl rfl) (IP 0 rfl Imp.nil).ent ⟨(ma,mc),rfl,rfl⟩)
theorem mas_len(ok:M.Ok):(masCs M a c).length=17:=by
 show(_::_::_::_::_::(hrdC M++whoC M)).length=17
 simp[hrdC,whoC,ok.hl,ok.wl]
theorem mas_who(ok:M.Ok){k:Nat}{b:Bool}(h:M.whole[k]?=some b):(masCs M a c)[11+k]?=some (.bool b):=by
 have hh:(hrdC M).length=6:=by simp[hrdC,ok.hl]
 show(_::_::_::_::_::(hrdC M++whoC M))[11+k]?=_
 rw[show 11+k=(6+k)+1+1+1+1+1 from by omega]
 simp only[List.getElem?_cons_succ]
 rw[List.getElem?_append_right yd,hh,show 6+k-6=k from by omega,whoC,List.getElem?_map,h];rfl
theorem mas_hrd(ok:M.Ok){k:Nat}{b:Int}(h:M.heard[k]?=some b):(masCs M a c)[5+k]?=some (.int .i64 b):=by
 have hk:=(List.getElem?_eq_some_iff.1 h).1
 rw[ok.hl] at hk
 have hh:(hrdC M).length=6:=by simp[hrdC,ok.hl]
 show(_::_::_::_::_::(hrdC M++whoC M))[5+k]?=_
 rw[show 5+k=k+1+1+1+1+1 from by omega]
 simp only[List.getElem?_cons_succ]
 rw[List.getElem?_append_left yd,hrdC,List.getElem?_map,h];rfl
theorem mas_setWho(ok:M.Ok){k:Nat}(hk:k<6)(b:Bool):(masCs M a c).set (11+k) (.bool b)=masCs { M with whole:=M.whole.set k b } a c:=by
 have hh:(hrdC M).length=6:=by simp[hrdC,ok.hl]
 show(_::_::_::_::_::(hrdC M++whoC M)).set (11+k) _=_::_::_::_::_::(hrdC M++whoC { M with whole:=M.whole.set k b })
 rw[show 11+k=(6+k)+1+1+1+1+1 from by omega]
 simp only[List.set_cons_succ]
 rw[List.set_append_right _ _ yd,hh,show 6+k-6=k from by omega,whoC,whoC,List.map_set]
theorem mas_setHrd(ok:M.Ok){k:Nat}(hk:k<6)(b:Int):(masCs M a c).set (5+k) (.int .i64 b)=masCs { M with heard:=M.heard.set k b } a c:=by
 have hh:(hrdC M).length=6:=by simp[hrdC,ok.hl]
 show(_::_::_::_::_::(hrdC M++whoC M)).set (5+k) _=_::_::_::_::_::(hrdC { M with heard:=M.heard.set k b } ++ whoC M)
 rw[show 5+k=k+1+1+1+1+1 from by omega]
 simp only[List.set_cons_succ]
 rw[List.set_append_left _ _ yd,hrdC,hrdC,List.map_set]
theorem MasM.Ok.whoAt(ok:M.Ok){n:Int}(h:0≤n∧n<6):∃k:Nat,n=k∧k<6∧M.whole[k]?=some (M.wholeB n):=by
 obtain⟨k,rfl⟩:∃k:Nat,n=k:=⟨n.toNat,by omega⟩
 refine⟨k,rfl,by omega,?_⟩
 have hk:k<M.whole.length:=by rw[ok.wl];omega
 unfold MasM.wholeB
 rw[Int.toNat_natCast,GE hk];rfl
theorem MasM.Ok.hrdAt(ok:M.Ok){n:Int}(h:0≤n∧n<6):∃k:Nat,n=k∧k<6∧M.heard[k]?=some (M.heardN n)∧0≤M.heardN n∧M.heardN n≤1099511627776:=by
 obtain⟨k,rfl⟩:∃k:Nat,n=k:=⟨n.toNat,by omega⟩
 have hk:k<M.heard.length:=by rw[ok.hl];omega
 have e:M.heard[k]?=some (M.heardN (k:Int)):=by
  unfold MasM.heardN
  rw[Int.toNat_natCast,GE hk];rfl
 exact⟨k,rfl,by omega,e,ok.hr _ (ME e)⟩
theorem mmayGo_spec(ok:M.Ok)(h:Blk Fr w p (masCs M a c))(hm:RwIn memC 2 Fr w a M.ch.ms)(n:Int):Tri Tryz.prog 124 [.pointer (some ⟨p,0,none⟩),.int .i64 n] Fr w [] (fun v L=>v=.bool (M.mayGo n)∧L=[]):=by
 have hl:=ok.ml
 refine TF 31 Tryz.func124 rfl ym tabOk rfl rfl ?_
 refine xej ?_
 refine VC.loop (σ:=Nat) (fun k=>[(0,pV p),(1,.int .i64 n),(11,.slice a M.ch.ms.length c),(12,.int .i64 M.ch.ms.length),(13,.int .i64 (k:Int))]) (fun _=>[]) (fun k=>k≤M.ch.ms.length∧(M.ch.ms.take k).any (fun x=>!decide (x.1=n)&&M.wholeB x.1)=false) (fun k=>M.ch.ms.length-k) 0
  ⟨Nat.zero_le _,by rw[List.take_zero];rfl⟩ sbZ ER ?_
 rintro k ⟨hk,hno⟩
 refine xjp ?_
 refine CP (p:=(k:Int)<M.ch.ms.length) rfl (fun h1=>CK ?_) (fun h1=>CX ?_)
 rotate_left
 ·rw[List.take_of_length_le yd] at hno
  refine xjp ?_
  exact CR (Ret.tmp 4 rfl rfl Imp.nil.ent ⟨by rw[MasM.mayGo,hno],rfl⟩)
 obtain⟨x,hx⟩:∃x,M.ch.ms[k]?=some x:=⟨_,GE yd⟩
 obtain⟨xb,xo,hxa,ra,rc⟩:=RwIn.rd (X:=⟨Tryz.prog,tab,tabOk,31,Fr,w⟩) hm hx
 subst hxa
 obtain⟨j,hj,hj6,hw⟩:=ok.whoAt (ok.mr x (ME hx))
 have next:(!decide (x.1=n)&&M.wholeB x.1)=false→(M.ch.ms.take (k+1)).any (fun x=>!decide (x.1=n)&&M.wholeB x.1)=false:=fun e=>by
  rw[List.take_add_one,hx,List.any_append,hno];simpa using e
 refine zov ?_
 refine xdk ?_
 refine VG (VO.alloc rfl fun b6=>?_)
 refine xkt ?_
 refine xjp ?_
 refine CD (ts 0 13 .nil) ym yr ?_
 refine xeu ?_
 by_cases h2:x.1=n
 ·refine AG (AY 21 false rfl (by rw[bne_eq_false_iff_eq];exact h2) ?_)
  refine xeu ?_
  refine xdy ?_
  refine zom ?_
  exact⟨k+1,⟨by omega,next (by rw[DT h2];rfl)⟩,by dsimp only;omega,SC rfl (SC rfl (SC rfl (SC rfl (Sub.int rfl yd (SN _))))),Imp.nil.ent⟩
 refine AG (AY 21 true rfl (by rw[bne_iff_ne];exact h2) ?_)
 refine xeu ?_
 refine AG (AI rfl (light_idxA j rfl rfl rfl rfl rfl hj yd) ?_)
 refine AG (VA.load rfl rfl rfl (RdL.blk h (v:=.bool (M.wholeB x.1)) (by show(masCs M _ c)[11+j*1]?=_;rw[Nat.mul_one];exact mas_who ok hw)) ?_)
 refine xeu ?_
 refine CC rfl (fun h3=>?_) (fun h3=>CK ?_)
 ·refine xjp ?_
  refine CR (Ret.tmp 4 rfl rfl Imp.nil.ent ⟨?_,rfl⟩)
  have:M.mayGo n=true:=by
   rw[MasM.mayGo,List.any_eq_true]
   exact⟨x,ME hx,by rw[DF h2,h3];rfl⟩
  rw[this]
 refine zom ?_
 exact⟨k+1,⟨by omega,next (by rw[h3,Bool.and_false])⟩,by dsimp only;omega,SC rfl (SC rfl (SC rfl (SC rfl (Sub.int rfl yd (SN _))))),Imp.nil.ent⟩
theorem few_bytes{n k b M:Nat}(h:n≤k)(hk:k*b≤M):n*b≤M:=Nat.le_trans (Nat.mul_le_mul_right b h) hk
theorem Imp.last{H:HP}{L:List HP}:Imp (H::L) (L ++ [H]):=Imp.perm (by simpa using(List.perm_append_comm (l₁:=[H]) (l₂:=L)))
theorem mall_spec(ok:M.Ok)(h:Blk Fr w p (masCs M a c))(hm:RwIn memC 2 Fr w a M.ch.ms):Tri Tryz.prog 126 [.pointer (some ⟨p,0,none⟩)] Fr w [] (fun v L=>sentX M.all v L []):=by
 have hn0:=ok.n0
 have hn1:=ok.n1
 refine TF 20 Tryz.func126 rfl ym tabOk rfl rfl ?_
 refine xjp ?_
 refine VC.loop (σ:=List SdG×Option Addr×Nat) (fun x=>[(0,pV p),(3,.slice x.2.1 x.1.length x.2.2),(4,.int .i64 x.1.length)]) (fun x=>slH sndT 30 x.2.1 x.1.length x.2.2 (flat sdC x.1)::x.1.map memH) (fun x=>x.1.length≤M.nodes.toNat∧x.1.map Prod.fst=(List.range x.1.length).map fun(n:Nat)=>cfgS M.ch (n:Int)) (fun x=>M.nodes.toNat-x.1.length) ([],none,0)
  ⟨Nat.zero_le _,rfl⟩ sbZ (Imp.slNil Imp.nil).ent ?_
 rintro⟨X,sa,sc⟩ ⟨hk,hX⟩
 dsimp only at hk hX ⊢
 refine xej ?_
 refine CP (p:=(X.length:Int)<M.nodes) rfl (fun h1=>CK ?_) (fun h1=>CX ?_)
 rotate_left
 ·refine xjp ?_
  refine CR (Ret.tmp 2 rfl rfl ER ⟨X,sa,sc,?_,rfl,rfl⟩)
  rw[hX,MasM.all,show M.nodes.toNat=X.length from by omega]
 refine xjp ?_
 refine VG (VK (Lc:=[]) (fun Fr w hF hw _=>mconfig_spec Fr w ok (h.of hF hw) (hm.of hF hw) X.length) rfl rfl ?_)
 rintro _ _ ⟨g,rfl,rfl⟩
 refine VG (VO.buildSlice (pv:=[(0,.agg (sdC (cfgS M.ch X.length,g)).toArray)]) (sdC (cfgS M.ch X.length,g)) rfl rfl rfl rfl yo (fill_one rfl rfl rfl) fun sb=>?_)
 refine VG (VO.append (m:=1) (news:=sdC (cfgS M.ch X.length,g)) 2 rfl rfl rfl rfl rfl rfl rfl (RdRow.pt 0 rfl rfl rfl) rfl (few_bytes (k:=1000) yd yo) yd fun a2 c2 hc2=>?_)
 refine zom ?_
 have hlen:(X ++ [(cfgS M.ch X.length,g)]).length=X.length+1:=by simp
 refine⟨(X ++ [(cfgS M.ch X.length,g)],a2,c2),⟨by dsimp only;omega,?_⟩,by dsimp only;omega,SC rfl (SC ybq (Sub.int rfl ybb (SN _))),?_⟩
 ·dsimp only
  rw[hlen,List.map_append,hX,List.range_succ,List.map_append];rfl
 ·dsimp only
  rw[hlen,flat_append,List.map_append]
  exact(Imp.cons (Imp.tl.trans Imp.last)).ent
end
end Cl
end Go.Proofs.YtmghpgpfeabghaaGreat
