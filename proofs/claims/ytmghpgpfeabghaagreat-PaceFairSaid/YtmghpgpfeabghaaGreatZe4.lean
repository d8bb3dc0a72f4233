/- Texts of the proof, put together and shortened. No condition. -/
import Derived.Test.YtmghpgpfeabghaaGreatZe3
set_option maxRecDepth 100000
set_option maxHeartbeats 16000000
set_option linter.unusedVariables false
set_option linter.unusedSectionVars false
set_option linter.unusedSimpArgs false
namespace Go.Proofs.YtmghpgpfeabghaaGreat
variable (Fr : Nat → Prop) (w : World)
namespace Cl
open Go Vg T Api Ch Rep
attribute [local irreducible] VO VC VA
def masL(p:Nat)(M:MasM)(a:Option Addr)(c:Nat):List HP:=[pt p (masCs M a c) masT,slH memT 2 a M.ch.ms.length c (flat memC M.ch.ms)]
def masH(p:Nat)(M:MasM):HP:=hex fun x:Option Addr×Nat=>hsep (masL p M x.1 x.2)
theorem HOpn.mas(p:Nat)(M:MasM):HOpn (ι:=Option Addr×Nat) (masH p M) (fun _=>True) (fun x=>masL p M x.1 x.2):=fun w ids ⟨x,h⟩ hn=>⟨x,trivial,ids,h,hn,fun _ h=>h⟩
theorem Imp.mas{p:Nat}{M:MasM}{L K:List HP}(x:Option Addr×Nat)(h:Imp L (masL p M x.1 x.2++K)):Imp L (masH p M::K):=Imp.ex (f:=fun x:Option Addr×Nat=>hsep (masL p M x.1 x.2)) x (Imp.sep h)
theorem Imp.dropL{R A:List HP}:Imp (R++A) A:=Imp.app (M:=[]) Imp.nil Imp.refl
theorem all_sent{p:Nat}{M:MasM}{a:Option Addr}{c:Nat}{A R:List HP}:Imp (A++(masL p M a c++R)) (masH p M::A):=
 (Imp.perm List.perm_append_comm).trans (Imp.mas (a,c) ((Imp.of_eq (List.append_assoc _ _ _)).trans (Imp.app Imp.refl Imp.dropL)))
theorem flat_1{α:Type}(c:α→List Value)(x:α):flat c [x]=c x:=by simp[flat]
theorem one_sent{p:Nat}{M:MasM}{a:Option Addr}{c:Nat}{x:SdG}{sb:Nat}{R:List HP}:Imp (pt sb (sdC x) sndT::memH x::(masL p M a c++R)) (masH p M::slH sndT 30 (some ⟨sb,0,none⟩) 1 1 (flat sdC [x]) :: [x].map memH):=by
 rw[flat_1]
 exact(Imp.slW (n:=1) (by rw[sdC_len]) (Imp.refl (L:=pt sb (sdC x) sndT::memH x::(masL p M a c++R)))).trans (all_sent (A:=[_,_]))
theorem none_sent{p:Nat}{M:MasM}{a:Option Addr}{c:Nat}{R:List HP}:Imp (masL p M a c++R) (masH p M::slH sndT 30 none 0 0 (flat sdC [])::([]:List SdG).map memH):=
 (Imp.slNil (Imp.refl (L:=masL p M a c++R))).trans (all_sent (A:=[slH sndT 30 none 0 0 []]))
theorem sent_nil{v:Value}{L H:List HP}(hv:v=.slice none 0 0)(hL:L=H++(slH sndT 30 none 0 0 (flat sdC [])::([]:List SdG).map memH)):sentX [] v L H:=⟨[],none,0,rfl,hv,hL⟩
theorem sent_1{v:Value}{L H:List HP}{x:SdG}{sb:Nat}(hv:v=.slice (some ⟨sb,0,none⟩) 1 1)(hL:L=H++(slH sndT 30 (some ⟨sb,0,none⟩) 1 1 (flat sdC [x]) :: [x].map memH)):sentX [x.1] v L H:=⟨[x],some ⟨sb,0,none⟩,1,rfl,hv,hL⟩
theorem place_mem{ms:List MemM}{n:Int}(h:0≤placeOf ms n):∃(i:Nat) (m:MemM),placeOf ms n=i∧i<ms.length∧ms[i]?=some m∧m.1=n:=by
 rcases place_range ms n with e | h
 ·omega
 ·exact h
theorem lv_0{c:ChM}{n:Int}(h:leavingE c n=0):0≤placeOf c.ms n∧c.ms.length≠1:=by
 unfold leavingE at h
 by_cases p:placeOf c.ms n<0
 ·rw[if_pos p] at h;exact absurd h yo
 ·refine⟨by omega,fun e=>?_⟩
  rw[if_neg p,if_pos e] at h;exact absurd h yo
theorem wo_ok{c:ChM}{n:Int}(h:(withoutC c n).2=0):furtherE c=0∧leavingE c n=0∧withoutC c n=(⟨c.epoch+1,c.ms.eraseIdx (placeOf c.ms n).toNat,if c.drain=n then -1 else c.drain⟩,0):=by
 unfold withoutC at h ⊢
 by_cases h1:furtherE c≠0
 ·rw[if_pos h1] at h;exact absurd h yo
 rw[if_neg h1] at h ⊢
 by_cases h2:leavingE c n≠0
 ·rw[if_pos h2] at h;exact absurd h h2
 rw[if_neg h2]
 exact⟨Classical.not_not.1 h1,Classical.not_not.1 h2,rfl⟩
theorem wi_ok{c:ChM}{n:Int}(h:(withC c n).2=0):furtherE c=0∧nodeB n=true∧placeOf c.ms n<0∧withC c n=(⟨c.epoch+1,c.ms ++ [(n,c.epoch+1)],c.drain⟩,0):=by
 unfold withC at h ⊢
 by_cases h1:furtherE c≠0
 ·rw[if_pos h1] at h;exact absurd h yo
 rw[if_neg h1] at h ⊢
 by_cases h2:nodeB n=false
 ·rw[if_pos h2] at h;exact absurd h yo
 rw[if_neg h2] at h ⊢
 by_cases h3:0≤placeOf c.ms n
 ·rw[if_pos h3] at h;exact absurd h yo
 rw[if_neg h3]
 exact⟨Classical.not_not.1 h1,by simpa using h2,by omega,rfl⟩
theorem dr_ok{c:ChM}{n:Int}(h:(drainC c n).2=0):furtherE c=0∧leavingE c n=0∧c.drain=-1∧drainC c n=(⟨c.epoch+1,c.ms,n⟩,0):=by
 unfold drainC at h ⊢
 by_cases h1:furtherE c≠0
 ·rw[if_pos h1] at h;exact absurd h yo
 rw[if_neg h1] at h ⊢
 by_cases h2:leavingE c n≠0
 ·rw[if_pos h2] at h;exact absurd h h2
 rw[if_neg h2] at h ⊢
 by_cases h3:c.drain≠-1
 ·rw[if_pos h3] at h;exact absurd h yo
 rw[if_neg h3]
 exact⟨Classical.not_not.1 h1,Classical.not_not.1 h2,Classical.not_not.1 h3,rfl⟩
theorem MasM.Ok.place{M:MasM}(ok:M.Ok){n:Int}(h:0≤placeOf M.ch.ms n):0≤n∧n<6:=by
 obtain⟨i,m,_,_,h2,rfl⟩:=place_mem h
 exact ok.mr m (ME h2)
theorem MasM.Ok.gone{M:MasM}(ok:M.Ok){n:Int}(h:M.outE n=0):(M.gone n).Ok:=by
 obtain⟨_,_,e⟩:=wo_ok h
 have e1:(M.gone n).ch=⟨M.ch.epoch+1,M.ch.ms.eraseIdx (placeOf M.ch.ms n).toNat,if M.ch.drain=n then -1 else M.ch.drain⟩:=by show(withoutC M.ch n).1=_;rw[e]
 refine⟨ok.n0,ok.n1,ok.p0,ok.p1,?_,?_,ok.hl,by show(M.whole.set _ _).length=6;rw[List.length_set,ok.wl],ok.hr⟩
 ·rw[e1];exact Nat.le_trans (List.length_eraseIdx_le _ _) ok.ml
 ·rw[e1];exact fun x hx=>ok.mr x (List.mem_of_mem_eraseIdx hx)
theorem MasM.Ok.out{M:MasM}(ok:M.Ok)(n:Int):(M.out n).Ok:=by
 unfold MasM.out
 split
 ·exact ok
 ·rename_i h;exact ok.gone (Classical.not_not.1 h)
theorem tickN_r(n:Int):0≤tickN n∧tickN n≤1099511627776:=by unfold tickN;omega
theorem MasM.Ok.heardAt{M:MasM}(ok:M.Ok)(n now:Int):(M.heardAt n now).Ok:=
 ⟨ok.n0,ok.n1,ok.p0,ok.p1,ok.ml,ok.mr,by show(M.heard.set _ _).length=6;rw[List.length_set,ok.hl],ok.wl,fun x hx=>by
  rcases List.mem_or_eq_of_mem_set hx with h | h
  ·exact ok.hr x h
  ·rw[h];exact tickN_r now⟩
theorem MasM.Ok.wholeAt{M:MasM}(ok:M.Ok)(n:Int):(M.wholeAt n).Ok:=
 ⟨ok.n0,ok.n1,ok.p0,ok.p1,ok.ml,ok.mr,ok.hl,by show(M.whole.set _ _).length=6;rw[List.length_set,ok.wl],ok.hr⟩
theorem MasM.Ok.take{M:MasM}(ok:M.Ok)(from_:Int)(f:FrameM)(now:Int):(M.take from_ f now).1.Ok:=by
 unfold MasM.take
 split
 ·exact ok
 split
 ·exact ok
 split
 ·split
  ·exact ok.heardAt _ _
  split
  ·exact(ok.heardAt _ _).wholeAt _
  ·exact ok.heardAt _ _
 split
 ·split
  ·exact ok
  split<;>exact ok
 split
 ·split
  ·rename_i h;exact ok.gone h.2.2
  ·exact ok
 ·exact ok
section
variable {p:Nat} {M:MasM}
theorem mout_spec(ok:M.Ok)(n:Int):Tri Tryz.prog 125 [.pointer (some ⟨p,0,none⟩),.int .i64 n] Fr w [masH p M] (fun v L=>v=.int .i64 (M.outE n)∧L=[masH p (M.out n)]):=by
 have hl:=ok.ml
 refine TF 28 Tryz.func125 rfl ym tabOk rfl rfl ?_
 refine xku ?_
 rintro⟨a,c⟩ -
 show VC _ _ _ (masL p M a c) _
 unfold masL
 refine xdf ?_
 refine xkv ?_
 refine xdf ?_
 refine VG (VK (Lc:=[]) (fun Fr w hF hw hS=>without_spec Fr w (c:=M.ch) (RwIn.slH memC_len (hS.at_ 1 rfl)) yd n) rfl rfl ?_)
 rintro _ _ ⟨wa,wc,rfl,rfl⟩
 refine xjq ?_
 refine VG (VO.alloc rfl fun b5=>?_)
 refine VG (VT (vs:=(withoutC M.ch n).1.cells wa wc) (cs':=(withoutC M.ch n).1.cells wa wc) 0 rfl rfl rfl rfl (NR _) rfl rfl rfl ?_)
 refine xjq ?_
 refine VC.condNE rfl (fun he=>?_) (fun he=>CK ?_)
 ·refine xjq ?_
  exact CR (Ret.tmp 4 rfl rfl (Imp.mas (a,c) (IP 2 rfl (IP 2 rfl Imp.nil))).ent ⟨rfl,by rw[MasM.out,if_pos (show M.outE n≠0 from he)]⟩)
 obtain⟨hf,hlv,hW⟩:=wo_ok he
 obtain⟨k,hk,hk6,_⟩:=ok.whoAt (ok.place (lv_0 hlv).1)
 have ok1:=ok.gone he
 refine xjq ?_
 refine VG (VL 0 ((withoutC M.ch n).1.cells wa wc) rfl rfl rfl rfl ?_)
 refine xjq ?_
 refine VG (VT (vs:=(withoutC M.ch n).1.cells wa wc) (cs':=masCs { M with ch:=(withoutC M.ch n).1 } wa wc) 2 rfl rfl rfl rfl ybr rfl rfl rfl ?_)
 refine xjq ?_
 have ok2:({ M with ch:=(withoutC M.ch n).1 }:MasM).Ok:=⟨ok1.n0,ok1.n1,ok1.p0,ok1.p1,ok1.ml,ok1.mr,ok.hl,ok.wl,ok.hr⟩
 have hg:masCs (M.gone n) wa wc=masCs { ({ M with ch:=(withoutC M.ch n).1 }:MasM) with whole:=M.whole.set k false } wa wc:=by rw[MasM.gone,show n.toNat=k from by omega]
 refine VG (VI (light_idxA k rfl rfl rfl rfl rfl hk hk6) ?_)
 refine VG (VO.st 2 (cs':=masCs (M.gone n) wa wc) rfl rfl rfl rfl (by show 0+11+k*1<_;rw[mas_len ok2];omega) (by rw[hg,←mas_setWho ok2 hk6];show _=(masCs _ wa wc).set (11+k) _;rw[show 11+k=0+11+k*1 from by omega];rfl) rfl ?_)
 refine xjq ?_
 exact CR (Ret.int 4 rfl rfl he.symm (Imp.mas (M:=M.gone n) (wa,wc) (IP 2 rfl (IP 1 rfl Imp.nil))).ent ⟨rfl,by rw[MasM.out,if_neg (by rw[show M.outE n=0 from he];decide)]⟩)
end
end Cl
namespace Cl
open Go Vg T Api Ch Rep Rd
attribute [local irreducible] VO VC VA
section
variable {p:Nat} {M:MasM}
theorem MasM.isNode_r{n:Int}(ok:M.Ok)(h:M.isNode n=true):0≤n∧n<6:=by
 have:=ok.n1
 unfold MasM.isNode at h
 simp only[Bool.and_eq_true,decide_eq_true_eq] at h
 omega
theorem mtake_spec(ok:M.Ok)(from_:Int)(f:FrameM)(g:MemG)(now:Int):Tri Tryz.prog 184 [.pointer (some ⟨p,0,none⟩),.int .i64 from_,.agg (f.cells g).toArray,.int .i64 now] Fr w [masH p M]
  (fun v L=>sentX (M.take from_ f now).2 v L [masH p (M.take from_ f now).1]):=by
 have hl:=ok.ml
 unfold MasM.take
 refine TF 112 Tryz.func184 rfl ym tabOk rfl rfl ?_
 refine CS (CG (VG (VB (vs:=f.cells g) rfl fun fb=>VG (VN ?_))))
 refine VC.opn 1 rfl (HOpn.mas p M) ?_
 rintro⟨a,c⟩ -
 show VC _ _ _ [pt p (masCs M a c) masT,slH memT 2 a M.ch.ms.length c (flat memC M.ch.ms),pt fb (f.cells g) frT] _
 refine xjp ?_
 refine xkw ?_
 refine zot ?_
 refine xdt ?_
 refine CE rfl (fun k7=>?_) (fun k7=>CK ?_)
 ·rw[if_pos k7]
  refine xjp ?_
  refine xkx ?_
  rintro _ _ ⟨y,rfl,rfl⟩
  refine VG (VO.buildSlice (pv:=[(0,.agg (sdC (cfgS M.ch from_,y)).toArray)]) (sdC (cfgS M.ch from_,y)) rfl rfl rfl rfl yo (fill_one rfl rfl rfl) fun sb=>?_)
  refine xjp ?_
  exact xky
 rw[if_neg k7]
 refine xjp ?_
 refine VG (VV (fun Fr w hF hw hS=>misNode_spec Fr w (hS.blk 0 rfl) from_) rfl ?_)
 refine xjp ?_
 refine VC.condN rfl (fun hn=>?_) (fun hn=>CK ?_)
 ·rw[if_pos hn]
  refine xjp ?_
  exact xkz
 rw[if_neg (by rw[hn];decide)]
 obtain⟨j,hj,hj6,hwj⟩:=ok.whoAt (MasM.isNode_r ok hn)
 refine xjp ?_
 refine CD (ts 0 9 .nil) ym yr ?_
 refine xgd ?_
 refine xdt ?_
 refine CE rfl (fun k11=>?_) (fun k11=>?_)
 ·rw[if_pos k11]
  refine xjp ?_
  refine CD (ts 0 3 (ts 4 2 (.only 3 (.take 6 (.only 7 .nil))))) ym yr ?_
  refine xjs ?_
  refine AG (AR (fun Fr w hF hs hS=>mwithin_spec Fr w now) rfl rfl yu ?_)
  refine xla ?_
  refine AG (VA.st 0 (cs':=masCs (M.heardAt from_ now) a c) rfl rfl rfl rfl rfl (by show 0+5+j*1<_;rw[mas_len ok];omega) (by rw[MasM.heardAt,show from_.toNat=j from by omega,←mas_setHrd ok hj6];show(masCs M a c).set (0+5+j*1) _=_;rw[show 0+5+j*1=5+j from by omega]) rfl yu ?_)
  have ok1:=ok.heardAt from_ now
  refine xjs ?_
  show VC _ _ _ [pt p (masCs (M.heardAt from_ now) a c) masT,slH memT 2 a (M.heardAt from_ now).ch.ms.length c (flat memC (M.heardAt from_ now).ch.ms),pt fb (f.cells g) frT] _
  refine xjp ?_
  by_cases he:f.epoch=M.ch.epoch
  rotate_left
  ·rw[if_pos he]
   refine VC.condN (t:=false) ybs (fun _=>?_) (fun e=>Bool.noConfusion e)
   refine xjp ?_
   refine VG (VK (Lc:=[]) (fun Fr w hF hw hS=>mconfig_spec (M:=M.heardAt from_ now) Fr w ok1 (hS.blk 0 rfl) (RwIn.slH memC_len (hS.at_ 1 rfl)) from_) rfl rfl ?_)
   rintro _ _ ⟨y,rfl,rfl⟩
   refine VG (VO.buildSlice (pv:=[(0,.agg (sdC (cfgS (M.heardAt from_ now).ch from_,y)).toArray)]) (sdC (cfgS (M.heardAt from_ now).ch from_,y)) rfl rfl rfl rfl yo (fill_one rfl rfl rfl) fun sb=>?_)
   refine xjp ?_
   exact CR (Ret.tmp 8 rfl rfl (one_sent (M:=M.heardAt from_ now) (a:=a) (c:=c) (R:=[_])).ent (sent_1 (x:=(cfgS M.ch from_,y)) rfl rfl))
  rw[if_neg (fun h=>h he)]
  refine VC.condN (t:=true) (by rw[←beq_iff_eq.2 he];rfl) (fun e=>Bool.noConfusion e) (fun _=>CK ?_)
  have hsn:sinceOf (M.heardAt from_ now).ch from_=sinceOf M.ch from_:=rfl
  refine xdt ?_
  by_cases hi:f.index=1
  rotate_left
  ·rw[if_neg (fun h=>hi h.1)]
   refine VG (VY 53 false rfl (beq_eq_false_iff_ne.2 hi) ?_)
   refine zqk ?_
   exact xlb
  refine VG (VY 53 true rfl (beq_iff_eq.2 hi) ?_)
  refine xjq ?_
  refine VG (VV (fun Fr w hF hw hS=>mmember_spec (M:=M.heardAt from_ now) Fr w ok1 (hS.blk 0 rfl) (RwIn.slH memC_len (hS.at_ 1 rfl)) from_) rfl ?_)
  refine xjq ?_
  refine CC rfl (fun hm=>?_) (fun hm=>CK ?_)
  ·rw[if_pos ⟨hi,hm⟩]
   refine xjp ?_
   refine VG (VI (light_idxA j rfl rfl rfl rfl rfl hj hj6) ?_)
   refine VG (VO.st 0 (cs':=masCs ((M.heardAt from_ now).wholeAt from_) a c) rfl rfl rfl rfl (by show 0+11+j*1<_;rw[mas_len ok1];omega) (by rw[MasM.wholeAt,show from_.toNat=j from by omega,←mas_setWho ok1 hj6];show(masCs (M.heardAt from_ now) a c).set (0+11+j*1) _=_;rw[show 0+11+j*1=11+j from by omega]) rfl ?_)
   refine xjp ?_
   exact CR (Ret.tmp 8 rfl rfl (none_sent (M:=(M.heardAt from_ now).wholeAt from_) (a:=a) (c:=c) (R:=[_])).ent (sent_nil rfl rfl))
  ·rw[if_neg (fun h=>by rw[hsn] at hm;rw[hm] at h;cases h.2)]
   refine xjp ?_
   exact xlb
 rw[if_neg k11]
 refine xjp ?_
 refine CE rfl (fun k9=>?_) (fun k9=>?_)
 ·rw[if_pos k9]
  refine xjp ?_
  by_cases he:f.epoch=M.ch.epoch
  rotate_left
  ·rw[if_pos he]
   refine VC.condN (t:=false) ybs (fun _=>?_) (fun e=>Bool.noConfusion e)
   refine xjp ?_
   refine xkx ?_
   rintro _ _ ⟨y,rfl,rfl⟩
   refine VG (VO.buildSlice (pv:=[(0,.agg (sdC (cfgS M.ch from_,y)).toArray)]) (sdC (cfgS M.ch from_,y)) rfl rfl rfl rfl yo (fill_one rfl rfl rfl) fun sb=>?_)
   refine xjp ?_
   exact xky
  rw[if_neg (fun h=>h he)]
  refine VC.condN (t:=true) (by rw[←beq_iff_eq.2 he];rfl) (fun e=>Bool.noConfusion e) (fun _=>CK ?_)
  refine xjp ?_
  refine xkv ?_
  refine VG (VV (fun Fr w hF hw hS=>tail_spec Fr w (c:=M.ch) (RwIn.slH memC_len (hS.at_ 1 rfl)) yd) rfl ?_)
  refine xjp ?_
  refine CE rfl (fun ht=>?_) (fun ht=>CK ?_)
  ·rw[if_pos ht]
   refine xdt ?_
   refine VG (VI (LB (pv:=[(0,.int .i64 10),(1,.int .i64 f.epoch),(12,.int .i64 f.index)]) ((sureF f.epoch f.index).cells (none,0,0)) rfl rfl rfl ym rfl) ?_)
   refine VG (VO.alloc rfl fun b10=>?_)
   refine VG (VT (vs:=(sureF f.epoch f.index).cells (none,0,0)) (cs':=(sureF f.epoch f.index).cells (none,0,0)) 0 rfl rfl rfl rfl (NR _) rfl rfl rfl ?_)
   refine xjp ?_
   refine VG (VL 0 ((sureF f.epoch f.index).cells (none,0,0)) rfl rfl rfl rfl ?_)
   refine VG (VI (LB (pv:=[(0,.int .i64 from_),(1,.agg ((sureF f.epoch f.index).cells (none,0,0)).toArray)]) (sdC ((from_,sureF f.epoch f.index,[]),(none,0))) rfl rfl rfl ym rfl) ?_)
   refine VG (VO.buildSlice (pv:=[(0,.agg (sdC ((from_,sureF f.epoch f.index,[]),(none,0))).toArray)]) (sdC ((from_,sureF f.epoch f.index,[]),(none,0))) rfl rfl rfl rfl yo (fill_one rfl rfl rfl) fun sb=>?_)
   refine xjp ?_
   refine CR (Ret.tmp 8 rfl rfl ?_ (sent_1 (x:=((from_,sureF f.epoch f.index,[]),(none,0))) (sb:=sb) rfl rfl))
   refine Imp.ent (Imp.trans (M:=pt sb (sdC ((from_,sureF f.epoch f.index,[]),(none,0))) sndT::memH ((from_,sureF f.epoch f.index,[]),(none,0))::(masL p M a c ++ [])) ?_ one_sent)
   exact IP 0 rfl (Imp.slNil (pkZ [1,1]))
  ·rw[if_neg ht]
   refine xjp ?_
   exact xkz
 rw[if_neg k9]
 refine xjp ?_
 refine CE rfl (fun k12=>?_) (fun k12=>CK ?_)
 rotate_left
 ·rw[if_neg k12]
  refine xjp ?_
  exact xkz
 rw[if_pos k12]
 refine xjp ?_
 by_cases he:f.epoch=M.ch.epoch
 rotate_left
 ·rw[if_neg (fun h=>he h.1.1)]
  refine VG (VY 90 false rfl (beq_eq_false_iff_ne.2 he) ?_)
  refine xjq ?_
  refine VG (VY 99 false rfl rfl ?_)
  refine xjq ?_
  refine zqo ?_
  exact xkz
 refine VG (VY 90 true rfl (beq_iff_eq.2 he) ?_)
 refine xdv ?_
 by_cases hd:M.ch.drain=from_
 rotate_left
 ·rw[if_neg (fun h=>hd h.1.2)]
  refine VG (VY 99 false rfl (beq_eq_false_iff_ne.2 hd) ?_)
  refine xjq ?_
  refine zqo ?_
  exact xkz
 refine VG (VY 99 true rfl (beq_iff_eq.2 hd) ?_)
 refine xjq ?_
 refine VG (VV (fun Fr w hF hw hS=>mmayGo_spec Fr w ok (hS.blk 0 rfl) (RwIn.slH memC_len (hS.at_ 1 rfl)) from_) rfl ?_)
 refine xjq ?_
 cases hg:M.mayGo from_ with
 | false=>
  rw[if_neg (fun h=>Bool.noConfusion h.2.1)]
  refine zqo ?_
  exact xkz
 | true=>
 refine VG (VY 104 true rfl rfl ?_)
 refine xjq ?_
 refine VO.ent (L':=[masH p M] ++ [pt fb (f.cells g) frT]) (Imp.mas (a,c) (pkZ [0,0,0])).ent ?_
 refine VG (VK (Lc:=[masH p M]) (fun Fr w hF hw hS=>mout_spec Fr w ok from_) rfl rfl ?_)
 rintro _ _ ⟨rfl,rfl⟩
 refine xjq ?_
 refine CE rfl (fun ho=>?_) (fun ho=>CK ?_)
 ·rw[if_pos ⟨⟨he,hd⟩,rfl,ho⟩]
  have hout:M.out from_=M.gone from_:=by rw[MasM.out,if_neg (by rw[ho];decide)]
  rw[hout]
  have ok1:=ok.gone ho
  refine VC.opn 0 rfl (HOpn.mas p (M.gone from_)) ?_
  rintro⟨a1,c1⟩ -
  show VC _ _ _ [pt p (masCs (M.gone from_) a1 c1) masT,slH memT 2 a1 (M.gone from_).ch.ms.length c1 (flat memC (M.gone from_).ch.ms),pt fb (f.cells g) frT] _
  refine xjp ?_
  refine VG (VK (Lc:=[]) (fun Fr w hF hw hS=>mall_spec (M:=M.gone from_) Fr w ok1 (hS.blk 0 rfl) (RwIn.slH memC_len (hS.at_ 1 rfl))) rfl rfl ?_)
  rintro _ _ ⟨X,sa,sc,hX,rfl,rfl⟩
  refine xjp ?_
  exact CR (Ret.tmp 8 rfl rfl (all_sent (p:=p) (M:=M.gone from_) (a:=a1) (c:=c1) (R:=[_])).ent ⟨X,sa,sc,hX,rfl,rfl⟩)
 ·rw[if_neg (fun h=>ho h.2.2)]
  have hout:M.out from_=M:=by rw[MasM.out,if_pos ho]
  rw[hout]
  refine xjp ?_
  exact CR (Ret.tmp 8 rfl rfl ((Imp.slNil (Imp.refl (L:=[masH p M,pt fb (f.cells g) frT]))).trans (IP 1 rfl (IP 0 rfl Imp.nil))).ent (sent_nil rfl rfl))
end
end Cl
namespace Cl
open Go Vg T Api Ch Rep Rd
attribute [local irreducible] VO VC VA
def sentE(S:List SdM)(e:Int)(v:Value)(L:List HP)(H:List HP):Prop:=∃(X:List SdG) (a:Option Addr) (c:Nat),X.map Prod.fst=S∧v=.tuple #[.slice a X.length c,.int .i64 e]∧L=H++(slH sndT 30 a X.length c (flat sdC X)::X.map memH)
theorem sentE_nil{v:Value}{e:Int}{L H:List HP}(hv:v=.tuple #[.slice none 0 0,.int .i64 e])(hL:L=H++(slH sndT 30 none 0 0 (flat sdC [])::([]:List SdG).map memH)):sentE [] e v L H:=⟨[],none,0,rfl,hv,hL⟩
theorem light_fld{X:Cx}{e:Env}{T:TypeId}{x:Operand}{xs:Array Value}{fs:Array Field}{g:Field}{f:Nat}{v:Value}(hT:X.P.underlying T=some (.struct fs))(hx:ev e x=some (.agg xs))(hf:fs[f]?=some g)
  (hp:∀w:World,(part g.type xs g.offset).run X.P w=.ok v w):Light X (.field T x f) e v:=by
 intro a ha dst ty pos after guard w
 have h:(Instr.field T (.agg xs) f).run X.P w=.ok v w:=by
  simp[Instr.field,run_underlying hT,hf,asAgg,hp w]
 simp[execOp,ha.ev hx,h]
section
variable {p:Nat} {M:MasM}
theorem RdL.mas{X:Cx}{L:List HP}{ti:TI}{M:MasM}{off:Nat}{v:Value}(i:Nat)(hL:L[i]?=some (masH p M))(hv:∀a c,(masCs M a c)[off]?=some v)(ha:ti.und.agg=false:=by rfl):RdL X L ti p off v:=fun w hw=>by
 obtain⟨F,hs,_,_⟩:=hw.sat
 obtain⟨ids,hid,_⟩:=Sats.get hs hL
 obtain⟨x,i1,G,_,h1,_⟩:=hid
 rw[ha];exact rd_cell h1.2 (hv _ _)
theorem out_pat(M:MasM)(n:Int):(M.out n).patience=M.patience:=by unfold MasM.out;split<;>rfl
theorem watch_ok{now:Int}:∀(l:List MemM) (x:MasM×Bool),x.1.Ok→(MasM.watch now l x).1.Ok
 | [],x,h=>h
 | y::l,x,h=>by
  rw[MasM.watch]
  refine watch_ok l _ ?_
  split
  ·rename_i hl
   simp only[MasM.late,Bool.and_eq_true,decide_eq_true_eq] at hl
   exact h.gone hl.2.2
  ·exact h
theorem MasM.Ok.tick(ok:M.Ok)(now:Int):(M.tick now).1.Ok:=watch_ok _ _ ok
theorem mtick_spec(ok:M.Ok)(now:Int):Tri Tryz.prog 82 [.pointer (some ⟨p,0,none⟩),.int .i64 now] Fr w [masH p M]
  (fun v L=>sentX (M.tick now).2 v L [masH p (M.tick now).1]):=by
 have hl:=ok.ml
 have htk:=tickN_r now
 unfold MasM.tick
 generalize htn:tickN now=tn at htk
 refine TF 56 Tryz.func82 rfl ym tabOk rfl rfl ?_
 refine xku ?_
 rintro⟨a,c⟩ -
 show VC _ _ _ [pt p (masCs M a c) masT,slH memT 2 a M.ch.ms.length c (flat memC M.ch.ms)] _
 refine xjp ?_
 refine xkw ?_
 refine zox ?_
 refine VG (VV (fun Fr w hF hw hS=>mwithin_spec Fr w now) rfl ?_)
 rw[htn]
 refine xjp ?_
 refine xkv ?_
 refine VG (VK (Lc:=[]) (fun Fr w hF hw hS=>mcopied_spec Fr w (c:=M.ch) (RwIn.slH memC_len (hS.at_ 1 rfl)) yd) rfl rfl ?_)
 rintro _ _ ⟨ca,cc,rfl,rfl⟩
 refine xjp ?_
 refine VG (VI (light_fld (v:=.slice ca M.ch.ms.length cc) Tryz.underlying74 rfl rfl (fun w=>part1 (TabOk.look tabOk (t:=72) (ti:=T.t72) rfl) rfl rfl w)) ?_)
 refine xjp ?_
 have hml:=ok.ml
 have hmr:=ok.mr
 generalize hms:M.ch.ms=ms at hml hmr
 refine VC.opn 0 rfl (HOpn.rl memT ca cc ms memC_len) ?_
 rintro⟨ra,rc,rb,rcs,rxs⟩ ⟨rok,rv,rx⟩
 dsimp only at rx
 subst rx
 injection rv with e1 _ e3
 subst e1 e3
 refine VC.loop (σ:=Nat×MasM×Bool) (fun x=>[(0,pV p),(1,.int .i64 tn),(18,.slice ra rxs.length rc),(19,.int .i64 rxs.length),(20,.int .i64 (x.1:Int)),(5,.bool x.2.2)]) (fun x=>[RL.h memT ⟨ra,rc,rb,rcs,rxs⟩,masH p x.2.1])
  (fun x=>x.1≤rxs.length∧x.2.1.Ok∧MasM.watch tn (rxs.drop x.1) x.2=MasM.watch tn rxs (M,false)) (fun x=>rxs.length-x.1) (0,M,false)
  ⟨Nat.zero_le _,ok,rfl⟩ sbZ ?_ ?_
 ·refine(IP 0 rfl (Imp.mas (a,c) ?_)).ent
  unfold masL
  rw[hms]
  exact Imp.refl
 rintro⟨k,M1,b⟩ ⟨hk,ok1,hW⟩
 dsimp only at hk ok1 hW ⊢
 refine xjp ?_
 refine CP (p:=(k:Int)<rxs.length) rfl (fun h1=>CK ?_) (fun h1=>CX ?_)
 rotate_left
 ·rw[List.drop_of_length_le yd] at hW
  rw[←hW]
  show VC _ _ _ _ _
  dsimp only[MasM.watch]
  refine xjp ?_
  cases b with
  | false=>
   refine xdz ?_
   refine xjp ?_
   exact CR (Ret.tmp 4 rfl rfl ((Imp.slNil (Imp.refl (L:=[RL.h memT ⟨ra,rc,rb,rcs,rxs⟩,masH p M1]))).trans (IP 2 rfl (IP 0 rfl Imp.nil))).ent (sent_nil rfl rfl))
  | true=>
   refine xdy ?_
   refine VC.opn 1 rfl (HOpn.mas p M1) ?_
   rintro⟨a1,c1⟩ -
   show VC _ _ _ [pt p (masCs M1 a1 c1) masT,slH memT 2 a1 M1.ch.ms.length c1 (flat memC M1.ch.ms),RL.h memT ⟨ra,rc,rb,rcs,rxs⟩] _
   refine xjp ?_
   refine VG (VK (Lc:=[]) (fun Fr w hF hw hS=>mall_spec (M:=M1) Fr w ok1 (hS.blk 0 rfl) (RwIn.slH memC_len (hS.at_ 1 rfl))) rfl rfl ?_)
   rintro _ _ ⟨X,sa,sc,hX,rfl,rfl⟩
   refine xjp ?_
   exact CR (Ret.tmp 4 rfl rfl (all_sent (p:=p) (M:=M1) (a:=a1) (c:=c1) (R:=[_])).ent ⟨X,sa,sc,hX,rfl,rfl⟩)
 obtain⟨x,hx⟩:∃x,rxs[k]?=some x:=⟨_,GE yd⟩
 have hdr:rxs.drop k=x::rxs.drop (k+1):=by
  obtain⟨g1,g2⟩:=List.getElem?_eq_some_iff.1 hx
  rw[List.drop_eq_getElem_cons g1,g2]
 rw[hdr,MasM.watch] at hW
 obtain⟨j,hj,hj6,hh,hh0,hh1⟩:=ok1.hrdAt (hmr x (ME hx))
 have hp0:=ok1.p0
 have hp1:=ok1.p1
 obtain⟨tb,tof,htb,hta,hrd⟩:=RL.Ok.ld (t:=memT) (k:=k) (x:=x) rok hx (memC_len x)
 dsimp only at hta
 subst hta
 refine VC.opn 1 rfl (HOpn.mas p M1) ?_
 rintro⟨a1,c1⟩ -
 show VC _ _ _ [pt p (masCs M1 a1 c1) masT,slH memT 2 a1 M1.ch.ms.length c1 (flat memC M1.ch.ms),RL.h memT ⟨some ⟨tb,tof,none⟩,rc,rb,rcs,rxs⟩] _
 refine CS (VC.meetS (σ:=MasM×Bool) (fun x=>[(0,pV p),(1,.int .i64 tn),(18,.slice (some ⟨tb,tof,none⟩) rxs.length rc),(19,.int .i64 rxs.length),(20,.int .i64 (k:Int)),(5,.bool x.2)]) (fun x=>[RL.h memT ⟨some ⟨tb,tof,none⟩,rc,rb,rcs,rxs⟩,masH p x.1]) (fun y=>y.1.Ok∧y=if M1.late tn x.1 then (M1.gone x.1,true) else (M1,b)) ?_ ?_)
 rotate_left
 ·rintro⟨M2,b2⟩ ⟨ok2,hy⟩
  refine zom ?_
  exact⟨(k+1,M2,b2),⟨by omega,ok2,by dsimp only;rw[hy];exact hW⟩,by dsimp only;omega,SC rfl (SC rfl (SC rfl (SC rfl (Sub.int rfl ybb sbZ)))),ER⟩
 refine zov ?_
 refine VG (VO.load rfl rfl ((hrd 2 rfl).1 _ rfl rfl) ?_)
 refine VG (VO.alloc rfl fun b7=>?_)
 refine xkt ?_
 refine xjp ?_
 refine CD (ts 0 18 (.only 18 (ts 19 5 (.only 24 (ts 25 2 .nil))))) ym yr ?_
 refine xlc ?_
 refine xla ?_
 have hcell:(masCs M1 a1 c1)[0+5+j*1]?=some (.int .i64 (M1.heardN x.1)):=by rw[show 0+5+j*1=5+j from by omega];exact mas_hrd ok1 hh
 refine AG (VA.ld 1 rfl rfl rfl rfl hcell ?_)
 refine xei ?_
 refine xlc ?_
 by_cases g1:M1.patience<tn-M1.heardN x.1
 rotate_left
 ·refine AG (AY 38 false rfl (DF g1) ?_)
  refine xlc ?_
  refine xhj ?_
  refine xlc ?_
  refine AG (AY 44 false rfl rfl ?_)
  refine xlc ?_
  refine xhj ?_
  refine xlc ?_
  refine xdy ?_
  exact⟨(M1,b),⟨ok1,by rw[if_neg];rw[MasM.late,DF g1,Bool.false_and];exact Bool.false_ne_true⟩,sbZ,(IP 3 rfl (Imp.mas (a1,c1) (pkZ [1,1]))).ent⟩
 refine AG (AY 38 true rfl (DT g1) ?_)
 refine xlc ?_
 refine AG (AR (fun Fr w hF hw hS=>mmayGo_spec Fr w ok1 (hS.blk 1 rfl) (RwIn.slH memC_len (hS.at_ 2 rfl)) x.1) rfl rfl (by(try refine Pd.st ?_);(repeat(first|exact Pd.nil|exact Pd.fnil|refine Pd.inner ?_|refine Pd.skip yr ?_|refine zf (zo 0 rfl rfl) ?_|refine zf (zo 1 rfl rfl) ?_|refine zf (zm 0 rfl rfl) ?_|refine zf (zm 1 rfl rfl) ?_|refine zf (RdL.blk (RdL.one 1 rfl hcell) rfl) ?_|refine zf ((RdL.one 1 rfl hcell)) ?_|refine zc (zo 0 rfl rfl) ?_|refine zc (zo 1 rfl rfl) ?_|refine zc (zm 0 rfl rfl) ?_|refine zc (zm 1 rfl rfl) ?_|refine zc (RdL.blk (RdL.one 1 rfl hcell) rfl) ?_|refine zc ((RdL.one 1 rfl hcell)) ?_))) ?_)
 refine xlc ?_
 cases g2:M1.mayGo x.1 with
 | false=>
  refine AG (AY 44 false rfl rfl ?_)
  refine xlc ?_
  refine xhj ?_
  refine xlc ?_
  refine xdy ?_
  exact⟨(M1,b),⟨ok1,by rw[if_neg];rw[MasM.late,g2,Bool.false_and,Bool.and_false];exact Bool.false_ne_true⟩,sbZ,(IP 3 rfl (Imp.mas (a1,c1) (pkZ [1,1]))).ent⟩
 | true=>
 refine AG (AY 44 true rfl rfl ?_)
 refine xlc ?_
 refine VA.ent (L':=[masH p M1] ++ [RL.h memT ⟨some ⟨tb,tof,none⟩,rc,rb,rcs,rxs⟩,pt b7 (memC x) memT]) (Imp.mas (a1,c1) (pkZ [1,1,1,0])).ent ?_
 have ok2:=ok1.out x.1
 have hh2:(M1.out x.1).heard[j]?=some (M1.heardN x.1):=by unfold MasM.out;split<;>exact hh
 have q7:∀a c,(masCs (M1.out x.1) a c)[0+5+j*1]?=some (.int .i64 (M1.heardN x.1)):=fun a c=>by rw[show 0+5+j*1=5+j from by omega];exact mas_hrd ok2 hh2
 have q12:∀a c,(masCs (M1.out x.1) a c)[1]?=some (.int .i64 M1.patience):=fun a c=>by rw[←out_pat M1 x.1];rfl
 refine AG (AO (OC (Lc:=[masH p M1]) (Lr:=[RL.h memT ⟨some ⟨tb,tof,none⟩,rc,rb,rcs,rxs⟩,pt b7 (memC x) memT]) rfl (.refl _) (fun Fr w hF hw hS=>mout_spec Fr w ok1 x.1)) rfl (fun v L' g=>by obtain⟨_,⟨rfl,rfl⟩,rfl⟩:=g;exact(by(try refine Pd.st ?_);(repeat(first|exact Pd.nil|exact Pd.fnil|refine Pd.inner ?_|refine Pd.skip yr ?_|refine zf (zo 0 rfl rfl) ?_|refine zf (zo 1 rfl rfl) ?_|refine zf (zo 2 rfl rfl) ?_|refine zf (zm 0 rfl rfl) ?_|refine zf (zm 1 rfl rfl) ?_|refine zf (zm 2 rfl rfl) ?_|refine zf (RdL.blk (RdL.mas 0 rfl q7) rfl) ?_|refine zf (RdL.blk (RdL.mas 0 rfl q12) rfl) ?_|refine zf ((RdL.mas 0 rfl q7)) ?_|refine zf ((RdL.mas 0 rfl q12)) ?_|refine zc (zo 0 rfl rfl) ?_|refine zc (zo 1 rfl rfl) ?_|refine zc (zo 2 rfl rfl) ?_|refine zc (zm 0 rfl rfl) ?_|refine zc (zm 1 rfl rfl) ?_|refine zc (zm 2 rfl rfl) ?_|refine zc (RdL.blk (RdL.mas 0 rfl q7) rfl) ?_|refine zc (RdL.blk (RdL.mas 0 rfl q12) rfl) ?_|refine zc ((RdL.mas 0 rfl q7)) ?_|refine zc ((RdL.mas 0 rfl q12)) ?_)))) ?_)
 rintro _ _ ⟨_,⟨rfl,rfl⟩,rfl⟩
 refine xld ?_
 refine CE rfl (fun ho=>?_) (fun ho=>CK ?_)
 ·have hout:M1.out x.1=M1.gone x.1:=by rw[MasM.out,if_neg (by rw[ho];decide)]
  rw[hout]
  refine xjp ?_
  exact⟨(M1.gone x.1,true),⟨ok1.gone ho,by rw[if_pos];rw[MasM.late,DT g1,g2,DT ho];rfl⟩,sbZ,(pkZ [1,0]).ent⟩
 ·have hout:M1.out x.1=M1:=by rw[MasM.out,if_pos ho]
  rw[hout]
  exact⟨(M1,b),⟨ok1,by rw[if_neg];rw[MasM.late,DF ho,Bool.and_false,Bool.and_false];exact Bool.false_ne_true⟩,sbZ,(pkZ [1,0]).ent⟩
end
end Cl
namespace Cl
open Go Vg T Api Ch Rep Rd Conf
attribute [local irreducible] VO VC VA
section
variable {p:Nat} {M:MasM}
theorem MasM.Ok.joined(ok:M.Ok){n:Int}(h:(withC M.ch n).2=0)(now:Int):(M.joined n now).Ok:=by
 obtain⟨h1,h2,h3,e⟩:=wi_ok h
 obtain⟨g1,g2,_⟩:=ch_size (fur_0 h1).1
 have e1:(M.joined n now).ch=⟨M.ch.epoch+1,M.ch.ms ++ [(n,M.ch.epoch+1)],M.ch.drain⟩:=by show(withC M.ch n).1=_;rw[e]
 refine⟨ok.n0,ok.n1,ok.p0,ok.p1,?_,?_,by show(M.heard.set _ _).length=6;rw[List.length_set,ok.hl],by show(M.whole.set _ _).length=6;rw[List.length_set,ok.wl],fun x hx=>?_⟩
 ·rw[e1];simp;omega
 ·rw[e1]
  intro x hx
  rcases List.mem_append.1 hx with hx | hx
  ·exact ok.mr x hx
  ·obtain rfl:=List.mem_singleton.1 hx
   simp[nodeB] at h2
   exact h2
 ·rcases List.mem_or_eq_of_mem_set hx with h | h
  ·exact ok.hr x h
  ·rw[h];exact tickN_r now
theorem MasM.Ok.drained(ok:M.Ok){n:Int}(h:(drainC M.ch n).2=0):(M.drained n).Ok:=by
 obtain⟨h1,h2,h3,e⟩:=dr_ok h
 have e1:(M.drained n).ch=⟨M.ch.epoch+1,M.ch.ms,n⟩:=by show(drainC M.ch n).1=_;rw[e]
 exact⟨ok.n0,ok.n1,ok.p0,ok.p1,by rw[e1];exact ok.ml,by rw[e1];exact ok.mr,ok.hl,ok.wl,ok.hr⟩
theorem su_4{n:Int}(hm:(sinceOf M.ch n).2=false):M.suspect n=(M,[],4)∧M.drain n=(M,[],4):=by unfold MasM.suspect MasM.drain MasM.mayE;simp[hm]
theorem su_72{n:Int}(hm:(sinceOf M.ch n).2=true)(hg:M.mayGo n=false):M.suspect n=(M,[],72)∧M.drain n=(M,[],72):=by unfold MasM.suspect MasM.drain MasM.mayE;simp[hm,hg]
theorem su_o{n:Int}(hm:(sinceOf M.ch n).2=true)(hg:M.mayGo n=true)(ho:M.outE n≠0):M.suspect n=(M,[],M.outE n):=by unfold MasM.suspect MasM.mayE;simp[hm,hg,ho]
theorem su_0{n:Int}(hm:(sinceOf M.ch n).2=true)(hg:M.mayGo n=true)(ho:M.outE n=0):M.suspect n=(M.gone n,(M.gone n).all,0):=by unfold MasM.suspect MasM.mayE;simp[hm,hg,ho]
theorem dr_o{n:Int}(hm:(sinceOf M.ch n).2=true)(hg:M.mayGo n=true)(ho:(drainC M.ch n).2≠0):M.drain n=(M,[],(drainC M.ch n).2):=by unfold MasM.drain MasM.mayE;simp[hm,hg,ho]
theorem dr_0{n:Int}(hm:(sinceOf M.ch n).2=true)(hg:M.mayGo n=true)(ho:(drainC M.ch n).2=0):M.drain n=(M.drained n,(M.drained n).all,0):=by unfold MasM.drain MasM.mayE;simp[hm,hg,ho]
theorem msuspect_spec(ok:M.Ok)(n:Int):Tri Tryz.prog 86 [.pointer (some ⟨p,0,none⟩),.int .i64 n] Fr w [masH p M]
  (fun v L=>sentE (M.suspect n).2.1 (M.suspect n).2.2 v L [masH p (M.suspect n).1]):=by
 have hl:=ok.ml
 refine TF 29 Tryz.func86 rfl ym tabOk rfl rfl ?_
 refine xku ?_
 rintro⟨a,c⟩ -
 show VC _ _ _ [pt p (masCs M a c) masT,slH memT 2 a M.ch.ms.length c (flat memC M.ch.ms)] _
 refine xjp ?_
 refine xkw ?_
 refine xjp ?_
 refine xdg ?_
 refine xjp ?_
 refine xle ?_
 refine xjp ?_
 refine VC.condN rfl (fun hm=>?_) (fun hm=>?_)
 ·refine xjp ?_
  exact CR (Ret.tmp2 4 5 rfl rfl rfl (none_sent (a:=a) (c:=c) (R:=[])).ent (by rw[(su_4 hm).1];exact sentE_nil rfl rfl))
 refine xjp ?_
 refine xlf ?_
 refine xjp ?_
 refine VC.condN rfl (fun hg=>?_) (fun hg=>CK ?_)
 ·refine xjp ?_
  exact CR (Ret.tmp2 4 5 rfl rfl rfl (none_sent (a:=a) (c:=c) (R:=[])).ent (by rw[(su_72 hm hg).1];exact sentE_nil rfl rfl))
 refine CN (L':=[masH p M]) (Imp.mas (a,c) (Imp.refl)).ent ?_
 refine xjp ?_
 refine VG (VK (Lc:=[masH p M]) (fun Fr w hF hw hS=>mout_spec Fr w ok n) rfl rfl ?_)
 rintro _ _ ⟨rfl,rfl⟩
 refine xjp ?_
 refine VC.condNE rfl (fun ho=>?_) (fun ho=>CK ?_)
 ·have hout:M.out n=M:=by rw[MasM.out,if_pos ho]
  rw[hout]
  refine xjp ?_
  exact CR (Ret.tmp2 4 5 rfl rfl rfl ((Imp.slNil (Imp.refl (L:=[masH p M]))).trans (IP 1 rfl Imp.refl)).ent (by rw[su_o hm hg ho];exact sentE_nil rfl rfl))
 have hout:M.out n=M.gone n:=by rw[MasM.out,if_neg (by rw[ho];decide)]
 rw[hout]
 have ok1:=ok.gone ho
 refine VC.opn 0 rfl (HOpn.mas p (M.gone n)) ?_
 rintro⟨a1,c1⟩ -
 show VC _ _ _ [pt p (masCs (M.gone n) a1 c1) masT,slH memT 2 a1 (M.gone n).ch.ms.length c1 (flat memC (M.gone n).ch.ms)] _
 refine xjp ?_
 refine VG (VK (Lc:=[]) (fun Fr w hF hw hS=>mall_spec (M:=M.gone n) Fr w ok1 (hS.blk 0 rfl) (RwIn.slH memC_len (hS.at_ 1 rfl))) rfl rfl ?_)
 rintro _ _ ⟨X,sa,sc,hX,rfl,rfl⟩
 refine xjp ?_
 exact CR (Ret.tmp2 4 5 rfl rfl rfl (all_sent (p:=p) (M:=M.gone n) (a:=a1) (c:=c1) (R:=[])).ent (by rw[su_0 hm hg ho];exact⟨X,sa,sc,hX,rfl,rfl⟩))
theorem mdrain_spec(ok:M.Ok)(n:Int):Tri Tryz.prog 88 [.pointer (some ⟨p,0,none⟩),.int .i64 n] Fr w [masH p M]
  (fun v L=>sentE (M.drain n).2.1 (M.drain n).2.2 v L [masH p (M.drain n).1]):=by
 have hl:=ok.ml
 refine TF 40 Tryz.func88 rfl ym tabOk rfl rfl ?_
 refine xku ?_
 rintro⟨a,c⟩ -
 show VC _ _ _ [pt p (masCs M a c) masT,slH memT 2 a M.ch.ms.length c (flat memC M.ch.ms)] _
 refine xjp ?_
 refine xkw ?_
 refine xjp ?_
 refine xdg ?_
 refine xjp ?_
 refine xle ?_
 refine xjp ?_
 refine VC.condN rfl (fun hm=>?_) (fun hm=>?_)
 ·refine xjp ?_
  exact CR (Ret.tmp2 4 5 rfl rfl rfl (none_sent (a:=a) (c:=c) (R:=[])).ent (by rw[(su_4 hm).2];exact sentE_nil rfl rfl))
 refine xjp ?_
 refine xlf ?_
 refine xjp ?_
 refine VC.condN rfl (fun hg=>?_) (fun hg=>CK ?_)
 ·refine xjp ?_
  exact CR (Ret.tmp2 4 5 rfl rfl rfl (none_sent (a:=a) (c:=c) (R:=[])).ent (by rw[(su_72 hm hg).2];exact sentE_nil rfl rfl))
 refine xdf ?_
 refine xkv ?_
 refine xjp ?_
 refine VG (VK (Lc:=[]) (fun Fr w hF hw hS=>drain_spec Fr w (c:=M.ch) (RwIn.slH memC_len (hS.at_ 1 rfl)) yd n) rfl rfl ?_)
 rintro _ _ ⟨wa,wc,rfl,rfl⟩
 refine xjq ?_
 refine VG (VO.alloc rfl fun b6=>?_)
 refine VG (VT (vs:=(drainC M.ch n).1.cells wa wc) (cs':=(drainC M.ch n).1.cells wa wc) 0 rfl rfl rfl rfl (NR _) rfl rfl rfl ?_)
 refine xjq ?_
 refine VC.condNE rfl (fun ho=>?_) (fun ho=>CK ?_)
 ·refine xjq ?_
  refine CR (Ret.tmp2 4 5 rfl rfl rfl ?_ (by rw[dr_o hm hg ho];exact sentE_nil rfl rfl))
  exact(Imp.trans (M:=masL p M a c ++ []) (pkZ [2,2]) none_sent).ent
 have ok1:=ok.drained ho
 refine xjq ?_
 refine VG (VL 0 ((drainC M.ch n).1.cells wa wc) rfl rfl rfl rfl ?_)
 refine xjq ?_
 refine VG (VT (vs:=(drainC M.ch n).1.cells wa wc) (cs':=masCs (M.drained n) wa wc) 2 rfl rfl rfl rfl ybr rfl rfl rfl ?_)
 refine VO.ent (L':=[pt p (masCs (M.drained n) wa wc) masT,slH memT 2 wa (M.drained n).ch.ms.length wc (flat memC (M.drained n).ch.ms)]) (pkZ [2,1]).ent ?_
 refine xjq ?_
 refine VG (VK (Lc:=[]) (fun Fr w hF hw hS=>mall_spec (M:=M.drained n) Fr w ok1 (hS.blk 0 rfl) (RwIn.slH memC_len (hS.at_ 1 rfl))) rfl rfl ?_)
 rintro _ _ ⟨X,sa,sc,hX,rfl,rfl⟩
 refine xjp ?_
 exact CR (Ret.tmp2 4 5 rfl rfl rfl (all_sent (p:=p) (M:=M.drained n) (a:=wa) (c:=wc) (R:=[])).ent (by rw[dr_0 hm hg ho];exact⟨X,sa,sc,hX,rfl,rfl⟩))
theorem jo_2{n now:Int}(h:M.isNode n=false):M.join n now=(M,[],2):=by unfold MasM.join;simp[h]
theorem jo_o{n now:Int}(h:M.isNode n=true)(ho:(withC M.ch n).2≠0):M.join n now=(M,[],(withC M.ch n).2):=by unfold MasM.join;simp[h,ho]
theorem jo_0{n now:Int}(h:M.isNode n=true)(ho:(withC M.ch n).2=0):M.join n now=(M.joined n now,(M.joined n now).all,0):=by unfold MasM.join;simp[h,ho]
theorem mjoin_spec(ok:M.Ok)(n now:Int):Tri Tryz.prog 132 [.pointer (some ⟨p,0,none⟩),.int .i64 n,.int .i64 now] Fr w [masH p M]
  (fun v L=>sentE (M.join n now).2.1 (M.join n now).2.2 v L [masH p (M.join n now).1]):=by
 have hl:=ok.ml
 refine TF 49 Tryz.func132 rfl ym tabOk rfl rfl ?_
 refine xku ?_
 rintro⟨a,c⟩ -
 show VC _ _ _ [pt p (masCs M a c) masT,slH memT 2 a M.ch.ms.length c (flat memC M.ch.ms)] _
 refine xjp ?_
 refine xkw ?_
 refine xjp ?_
 refine xdg ?_
 refine xjp ?_
 refine VG (VV (fun Fr w hF hw hS=>misNode_spec Fr w (hS.blk 0 rfl) n) rfl ?_)
 refine xjp ?_
 refine VC.condN rfl (fun hn=>?_) (fun hn=>CK ?_)
 ·refine xjp ?_
  exact CR (Ret.tmp2 6 7 rfl rfl rfl (none_sent (a:=a) (c:=c) (R:=[])).ent (by rw[jo_2 hn];exact sentE_nil rfl rfl))
 obtain⟨j,hj,hj6,_⟩:=ok.whoAt (MasM.isNode_r ok hn)
 refine xdf ?_
 refine xkv ?_
 refine xjp ?_
 refine VG (VK (Lc:=[]) (fun Fr w hF hw hS=>with_spec Fr w (c:=M.ch) (RwIn.slH memC_len (hS.at_ 1 rfl)) yd n) rfl rfl ?_)
 rintro _ _ ⟨wa,wc,rfl,rfl⟩
 refine xjq ?_
 refine VG (VO.alloc rfl fun b6=>?_)
 refine VG (VT (vs:=(withC M.ch n).1.cells wa wc) (cs':=(withC M.ch n).1.cells wa wc) 0 rfl rfl rfl rfl (NR _) rfl rfl rfl ?_)
 refine xjq ?_
 refine VC.condNE rfl (fun ho=>?_) (fun ho=>CK ?_)
 ·refine xjq ?_
  refine CR (Ret.tmp2 6 7 rfl rfl rfl ?_ (by rw[jo_o hn ho];exact sentE_nil rfl rfl))
  exact(Imp.trans (M:=masL p M a c ++ []) (pkZ [2,2]) none_sent).ent
 have ok1:=ok.joined ho now
 have ok2:({ M with ch:=(withC M.ch n).1 }:MasM).Ok:=⟨ok1.n0,ok1.n1,ok1.p0,ok1.p1,ok1.ml,ok1.mr,ok.hl,ok.wl,ok.hr⟩
 have ok3:({ M with ch:=(withC M.ch n).1,whole:=M.whole.set j false }:MasM).Ok:=⟨ok1.n0,ok1.n1,ok1.p0,ok1.p1,ok1.ml,ok1.mr,ok.hl,by show(M.whole.set _ _).length=6;rw[List.length_set,ok.wl],ok.hr⟩
 refine xjq ?_
 refine VG (VL 0 ((withC M.ch n).1.cells wa wc) rfl rfl rfl rfl ?_)
 refine xjq ?_
 refine VG (VT (vs:=(withC M.ch n).1.cells wa wc) (cs':=masCs { M with ch:=(withC M.ch n).1 } wa wc) 2 rfl rfl rfl rfl ybr rfl rfl rfl ?_)
 refine xjq ?_
 refine VG (VI (light_idxA j rfl rfl rfl rfl rfl hj hj6) ?_)
 refine VG (VO.st 2 (cs':=masCs { M with ch:=(withC M.ch n).1,whole:=M.whole.set j false } wa wc) rfl rfl rfl rfl (by show 0+11+j*1<_;rw[mas_len ok2];omega) (by show(masCs ({ M with ch:=(withC M.ch n).1 }:MasM) wa wc).set (0+11+j*1) _=_;rw[show 0+11+j*1=11+j from by omega,mas_setWho ok2 hj6]) rfl ?_)
 refine xjq ?_
 refine CD (ts 0 3 (ts 4 2 (.only 3 (.take 6 (.only 7 .nil))))) ym yr ?_
 refine xjs ?_
 refine AG (AR (fun Fr w hF hs hS=>mwithin_spec Fr w now) rfl rfl yu ?_)
 refine xla ?_
 refine AG (VA.st 2 (cs':=masCs (M.joined n now) wa wc) rfl rfl rfl rfl rfl (by show 0+5+j*1<_;rw[mas_len ok3];omega) (by show(masCs ({ M with ch:=(withC M.ch n).1,whole:=M.whole.set j false }:MasM) wa wc).set (0+5+j*1) _=_;rw[show 0+5+j*1=5+j from by omega,mas_setHrd ok3 hj6,MasM.joined,show n.toNat=j from by omega]) rfl yu ?_)
 refine xjs ?_
 refine CN (L':=[pt p (masCs (M.joined n now) wa wc) masT,slH memT 2 wa (M.joined n now).ch.ms.length wc (flat memC (M.joined n now).ch.ms)]) (pkZ [2,1]).ent ?_
 refine xjq ?_
 refine VG (VK (Lc:=[]) (fun Fr w hF hw hS=>mall_spec (M:=M.joined n now) Fr w ok1 (hS.blk 0 rfl) (RwIn.slH memC_len (hS.at_ 1 rfl))) rfl rfl ?_)
 rintro _ _ ⟨X,sa,sc,hX,rfl,rfl⟩
 refine xjp ?_
 exact CR (Ret.tmp2 6 7 rfl rfl rfl (all_sent (p:=p) (M:=M.joined n now) (a:=wa) (c:=wc) (R:=[])).ent (by rw[jo_0 hn ho];exact⟨X,sa,sc,hX,rfl,rfl⟩))
theorem mchain_spec(ok:M.Ok){a:Option Addr}{c:Nat}(h:Blk Fr w p (masCs M a c))(hm:RwIn memC 2 Fr w a M.ch.ms):Tri Tryz.prog 27 [.pointer (some ⟨p,0,none⟩)] Fr w []
  (fun v L=>∃a' c',v=.agg (M.ch.cells a' c').toArray∧L=[slH memT 2 a' M.ch.ms.length c' (flat memC M.ch.ms)]):=by
 have hl:=ok.ml
 refine TF 12 Tryz.func27 rfl ym tabOk rfl rfl ?_
 refine CS (CG (VG (VO.alloc rfl fun d=>?_)))
 refine xjp ?_
 refine VG (VV (fun Fr w hF hw hS=>mmade_spec Fr w ok (h.of hF hw)) rfl ?_)
 refine zox ?_
 refine xkr ?_
 refine xks ?_
 rintro _ _ ⟨ma,mc,rfl,rfl⟩
 refine VG (VT (vs:=M.ch.cells ma mc) (cs':=M.ch.cells ma mc) 1 rfl rfl rfl rfl (NR _) rfl rfl rfl ?_)
 refine xjp ?_
 exact CR (Ret.cell 2 rfl rfl rfl (RdL.many 1 rfl rfl) (IP 0 rfl Imp.nil).ent ⟨ma,mc,rfl,rfl⟩)
end
end Cl
namespace Cl
open Go Vg T Api Ch Rep Rd Conf Sched
attribute [local irreducible] VO VC VA
def whoK(k:Nat):List Bool:=(List.range 6).map fun(i:Nat)=>decide (i<k)
def newMk(c:ConfM)(k:Nat):MasM:=⟨c.nodes,c.patience,firstC c,List.replicate 6 0,whoK k⟩
theorem whoK_set{k:Nat}(h:k<6):(whoK k).set k true=whoK (k+1):=by
 rcases(by omega:k=0∨k=1∨k=2∨k=3∨k=4∨k=5) with rfl | rfl | rfl | rfl | rfl | rfl<;>rfl
theorem conf_bounds2{c:ConfM}(h:c=fitM c):(4≤c.patience∧c.patience≤64)∧(4≤c.timeout∧c.timeout≤64)∧(0≤c.budget∧c.budget≤16)∧(1≤c.refill∧c.refill≤1099511627776)∧(4≤c.link∧c.link≤64)∧(1≤c.qs.length∧c.qs.length≤4):=by
 have e1:c.patience=near c.patience 4 64:=congrArg ConfM.patience h
 have e2:c.timeout=near c.timeout 4 64:=congrArg ConfM.timeout h
 have e3:c.budget=near c.budget 0 16:=congrArg ConfM.budget h
 have e4:c.refill=near c.refill 1 1099511627776:=congrArg ConfM.refill h
 have e5:c.link=near c.link 4 64:=congrArg ConfM.link h
 have e6:c.qs=qFit c.qs:=congrArg ConfM.qs h
 have n1:=near_in (x:=c.patience) (lo:=4) (hi:=64) yo
 have n2:=near_in (x:=c.timeout) (lo:=4) (hi:=64) yo
 have n3:=near_in (x:=c.budget) (lo:=0) (hi:=16) yo
 have n4:=near_in (x:=c.refill) (lo:=1) (hi:=1099511627776) yo
 have n5:=near_in (x:=c.link) (lo:=4) (hi:=64) yo
 have n6:=qFit_len c.qs
 rw[←e6] at n6
 omega
theorem newMk_ok{c:ConfM}(h:c=fitM c)(k:Nat):(newMk c k).Ok:=by
 obtain⟨b1,b2,_⟩:=conf_bounds h
 obtain⟨b3,_⟩:=conf_bounds2 h
 refine⟨b1.1,b1.2,by show 0≤c.patience;omega,by show c.patience≤_;omega,?_,?_,rfl,rfl,fun x hx=>?_⟩
 ·show(firstMs c.chain.toNat).length≤7;rw[firstMs_len];omega
 ·intro x hx
  obtain⟨i,hi,rfl⟩:=List.mem_map.1 (show x∈(List.range c.chain.toNat).map _ from hx)
  have:=List.mem_range.1 hi
  dsimp only;omega
 ·obtain rfl:=List.eq_of_mem_replicate hx
  decide
theorem newM_eq(c:ConfM)(h:c=fitM c):newMk c c.chain.toNat=newM c:=by
 obtain⟨b1,b2,_⟩:=conf_bounds h
 unfold newMk newM whoK
 congr 1
 refine List.map_congr_left fun i hi=>?_
 by_cases e:(i:Int)<c.chain
 ·rw[DT e,DT yd]
 ·rw[DF e,DF yd]
theorem firstMs_at{n k:Nat}(h:k<n):(firstMs n)[k]?=some ((k:Int),(1:Int)):=by
 unfold firstMs
 rw[List.getElem?_map,List.getElem?_range h];rfl
theorem mnew_spec(c:ConfM){qa:Option Addr}{qc:Nat}(hq:IntsIn Fr w qa c.qs)(hqa:AdOk qa)(hqc:c.qs.length≤qc):
  Tri Tryz.prog 35 [.agg (c.cells qa qc).toArray] Fr w [] (fun v L=>if c=fitM c then ∃p,v=.tuple #[.pointer (some ⟨p,0,none⟩),.int .i64 0]∧L=[masH p (newM c)] else v=.tuple #[.pointer none,.int .i64 2]∧L=[]):=by
 refine TF 38 Tryz.func35 rfl ym tabOk rfl rfl ?_
 refine CS (CG (VG (VB (vs:=c.cells qa qc) rfl fun b1=>VG (VN ?_))))
 refine xjp ?_
 refine xlg ?_
 refine VG (VK (Lc:=[]) (fun Fr w hF hs _=>first_spec Fr w c qa qc (ints_of hq hF hs) hqa hqc) rfl rfl ?_)
 rintro v L1 h
 by_cases hf:c=fitM c
 rotate_left
 ·rw[if_neg hf] at h
  obtain⟨rfl,rfl⟩:=h
  refine xjq ?_
  refine VG (VO.alloc rfl fun b4=>?_)
  refine xjh ?_
  refine zos ?_
  exact CR (Ret.tmp2 2 3 rfl rfl rfl Imp.nil.ent ybt)
 rw[if_pos hf] at h
 obtain⟨a,n,rfl,rfl⟩:=h
 obtain⟨b1',b2',_⟩:=conf_bounds hf
 have hlen:(firstC c).ms.length=c.chain.toNat:=firstMs_len _
 refine xjq ?_
 refine VG (VO.alloc rfl fun b4=>?_)
 refine VG (VT (vs:=(firstC c).cells a n) (cs':=(firstC c).cells a n) 0 rfl rfl rfl rfl (NR _) rfl rfl rfl ?_)
 refine zop ?_
 refine xdv ?_
 refine VG (VL 0 ((firstC c).cells a n) rfl rfl rfl rfl ?_)
 refine VG (VI (LB (pv:=[(0,.int .i64 c.nodes),(1,.int .i64 c.patience),(2,.agg ((firstC c).cells a n).toArray)]) (masCs (newMk c 0) a n) rfl rfl rfl ym rfl) ?_)
 refine VG (VB (vs:=masCs (newMk c 0) a n) rfl fun q=>?_)
 refine xdx ?_
 have hq2:∀(i:Nat) (x:MemM),(firstC c).ms[i]?=some x→x=((i:Int),(1:Int)):=fun i x hx=>by
  have hi:=(List.getElem?_eq_some_iff.1 hx).1
  rw[hlen] at hi
  have:=firstMs_at hi
  rw[show(firstC c).ms=firstMs c.chain.toNat from rfl,this] at hx
  exact(Option.some.inj hx).symm
 refine CN (L':=[slH memT 2 a (firstC c).ms.length n (flat memC (firstC c).ms),pt q (masCs (newMk c 0) a n) masT]) (pkZ [2,0]).ent ?_
 generalize hms:(firstC c).ms=ms at hlen hq2
 refine VC.opn 0 rfl (HOpn.sl _ _ _ _ _ _) ?_
 rintro(_ | ⟨mb,rest⟩) ⟨hx1,hx2,hx3⟩
 ·obtain⟨_,h0,_⟩:=hx3
  omega
 obtain⟨rfl,hx4⟩:=hx3
 dsimp only
 refine VC.loop (σ:=Nat) (fun k=>[(6,pV q),(24,.slice (some ⟨mb,0,none⟩) ms.length n),(25,.int .i64 ms.length),(26,.int .i64 (k:Int))]) (fun k=>[pt mb (flat memC ms++rest) memT,pt q (masCs (newMk c k) (some ⟨mb,0,none⟩) n) masT]) (fun k=>k≤ms.length) (fun k=>ms.length-k) 0
  (Nat.zero_le _) sbZ ER ?_
 rintro k hk
 refine xjp ?_
 refine CP (p:=(k:Int)<ms.length) rfl (fun h1=>CK ?_) (fun h1=>CX ?_)
 rotate_left
 ·obtain rfl:k=ms.length:=by omega
  refine xjp ?_
  refine CR (Ret.tmp2 2 3 rfl rfl rfl (L':=[masH q (newM c)]) ?_ (by rw[if_pos hf];exact⟨q,rfl,rfl⟩))
  rw[←newM_eq c hf,←hlen]
  refine(Imp.mas (some ⟨mb,0,none⟩,n) (IP 1 rfl ?_)).ent
  show Imp [pt mb (flat memC ms++rest) memT] [slH memT 2 (some ⟨mb,0,none⟩) (firstC c).ms.length n (flat memC (firstC c).ms)]
  rw[hms]
  exact Imp.sl hx1 hx2 (by simpa using hx4) Imp.refl
 obtain⟨x,hx⟩:∃x,ms[k]?=some x:=⟨_,GE yd⟩
 obtain rfl:=hq2 k x hx
 have hk6:k<6:=by omega
 have ok:=newMk_ok hf k
 refine zov ?_
 refine VG (VL 0 (memC ((k:Int),1)) rfl rfl rfl (by show((flat memC ms++rest).drop (0+k*2)).take 2=_;rw[Nat.zero_add];exact flat_row memC_len hx rest) ?_)
 refine VG (VO.alloc rfl fun b8=>?_)
 refine VG (VT (vs:=memC ((k:Int),1)) (cs':=memC ((k:Int),1)) 0 rfl rfl rfl rfl (NR _) rfl rfl rfl ?_)
 refine xjp ?_
 refine xhh ?_
 refine xeh ?_
 refine AG (AI rfl (light_idxA k rfl rfl rfl rfl rfl rfl hk6) ?_)
 refine AG (VA.st 2 (cs':=masCs (newMk c (k+1)) (some ⟨mb,0,none⟩) n) rfl rfl rfl rfl rfl (by show 0+11+k*1<_;rw[mas_len ok];omega) (by show(masCs (newMk c k) _ n).set (0+11+k*1) _=_;rw[show 0+11+k*1=11+k from by omega,mas_setWho ok hk6];show masCs ⟨_,_,_,_,(whoK k).set k true⟩ _ _=_;rw[whoK_set hk6];rfl) rfl yu ?_)
 refine xjs ?_
 refine zom ?_
 exact⟨k+1,by omega,by dsimp only;omega,SC rfl (SC rfl (SC rfl (Sub.int rfl yd (SN _)))),(pkZ [1,1]).ent⟩
end Cl
namespace Cl
open Go Vg T Api Ch Rep
attribute [local irreducible] VO VC VA
abbrev cliT:TypeId:=121
structure CliS where
 q:Nat
 b:Nat
 a:Option Addr
 c:Nat
def sloV(o:Option (Option OutM))(b:Nat):Value:=match o with
 | some _=>.pointer (some ⟨b,0,none⟩)
 | none=>.pointer none
def sloP(o:Option (Option OutM))(b:Nat):HP:=match o with
 | some x=>pt b (sloM x) sloT
 | none=>hpure True
def cliC(S:CliM)(y:CliS):List Value:=[.int .i64 S.id,.int .i64 S.cls,.int .i64 S.timeout,.int .i64 S.budget,.pointer (some ⟨y.q,0,none⟩),.int .i64 S.ch.epoch,.slice y.a S.ch.ms.length y.c,.int .i64 S.ch.drain,sloV S.out y.b,.int .i64 S.doing,.int .i64 S.since,.int .i64 S.until_,.bool S.unsure,.int .i64 S.seq,.int .i64 S.tries,.int .i64 S.cl,.int .i64 S.deadline,.int .i64 S.op.kind,.string S.op.key,.string S.op.value,.int .i64 S.op.version]
def cliL(p:Nat)(S:CliM)(y:CliS):List HP:=[pt p (cliC S y) cliT,pt y.q (bktC S.tok) bktT,slH memT 2 y.a S.ch.ms.length y.c (flat memC S.ch.ms),sloP S.out y.b]
def cliH(p:Nat)(S:CliM):HP:=hex fun y:CliS=>hsep (cliL p S y)
theorem HOpn.cli(p:Nat)(S:CliM):HOpn (ι:=CliS) (cliH p S) (fun _=>True) (fun y=>cliL p S y):=fun w ids ⟨x,h⟩ hn=>⟨x,trivial,ids,h,hn,fun _ h=>h⟩
theorem Imp.cli{p:Nat}{S:CliM}{L K:List HP}(y:CliS)(h:Imp L (cliL p S y++K)):Imp L (cliH p S::K):=Imp.ex (f:=fun y:CliS=>hsep (cliL p S y)) y (Imp.sep h)
structure CliM.Ok(S:CliM):Prop where
 c0:1≤S.cls
 c1:S.cls≤4
 t0:0≤S.timeout
 t1:S.timeout≤1000
 b0:0≤S.budget
 b1:S.budget≤16
 tok:S.tok.Ok
 ml:S.ch.ms.length≤6
 out:S.doing≠0→S.out=some none
 s0:0≤S.since
 s1:S.since≤1099511627776
 q0:0≤S.seq
 r0:0≤S.tries
 r1:S.tries≤17
 rb:S.doing=1∨S.doing=3→S.tries≤16
def sent0(to:Int)(f:FrameM):SdG:=((to,f,[]),(none,0))
theorem cli_sent{p:Nat}{S:CliM}{y:CliS}{A R:List HP}:Imp (A++(cliL p S y++R)) (cliH p S::A):=
 (Imp.perm List.perm_append_comm).trans (Imp.cli y ((Imp.of_eq (List.append_assoc _ _ _)).trans (Imp.app Imp.refl Imp.dropL)))
theorem cli_one{p:Nat}{S:CliM}{y:CliS}{to:Int}{f:FrameM}{sb:Nat}{R:List HP}:Imp (pt sb (sdC (sent0 to f)) sndT::(cliL p S y++R)) (cliH p S::slH sndT 30 (some ⟨sb,0,none⟩) 1 1 (flat sdC [sent0 to f]) :: [sent0 to f].map memH):=by
 rw[flat_1]
 refine Imp.trans (M:=[slH sndT 30 (some ⟨sb,0,none⟩) 1 1 (sdC (sent0 to f)),memH (sent0 to f)]++(cliL p S y++R)) ?_ cli_sent
 exact Imp.slW (n:=1) (by rw[sdC_len]) (Imp.cons (Imp.slNil Imp.refl))
theorem cli_none{p:Nat}{S:CliM}{y:CliS}{R:List HP}:Imp (cliL p S y++R) (cliH p S::slH sndT 30 none 0 0 (flat sdC [])::([]:List SdG).map memH):=
 (Imp.slNil (Imp.refl (L:=cliL p S y++R))).trans (cli_sent (A:=[slH sndT 30 none 0 0 []]))
theorem sent_0{v:Value}{L H:List HP}{to:Int}{f:FrameM}{sb:Nat}(hv:v=.slice (some ⟨sb,0,none⟩) 1 1)(hL:L=H++(slH sndT 30 (some ⟨sb,0,none⟩) 1 1 (flat sdC [sent0 to f]) :: [sent0 to f].map memH)):sentX [(to,f,[])] v L H:=sent_1 (x:=sent0 to f) hv hL
section
variable {p:Nat} {S:CliM} {y:CliS}
theorem cwithin_spec(n:Int):Tri Tryz.prog 150 [.int .i64 n] Fr w [] (fun v L=>v=.int .i64 (tickN n)∧L=[]):=by
 refine TF 6 Tryz.func150 rfl ym tabOk rfl rfl ?_
 refine xjp ?_
 exact CR (Ret.int 2 rfl rfl ybp ER ⟨rfl,rfl⟩)
theorem cmade_spec(ok:S.Ok)(h:Blk Fr w p (cliC S y)):Tri Tryz.prog 64 [.pointer (some ⟨p,0,none⟩)] Fr w [] (fun v L=>v=.bool true∧L=[]):=by
 have:=ok.c0
 refine TF 12 Tryz.func64 rfl ym tabOk rfl rfl ?_
 refine zqd ?_
 refine xjr ?_
 exact CR (Ret.bool (b:=true) 2 rfl rfl (DT yd) ER ⟨rfl,rfl⟩)
theorem cbusy_spec(ok:S.Ok)(h:Blk Fr w p (cliC S y)):Tri Tryz.prog 34 [.pointer (some ⟨p,0,none⟩)] Fr w [] (fun v L=>v=.bool (S.doing != 0)∧L=[]):=by
 refine TF 12 Tryz.func34 rfl ym tabOk rfl rfl ?_
 refine xjq ?_
 refine xlh ?_
 refine zqd ?_
 refine xjr ?_
 exact xfa
theorem cseq_spec(ok:S.Ok)(h:Blk Fr w p (cliC S y)):Tri Tryz.prog 91 [.pointer (some ⟨p,0,none⟩)] Fr w [] (fun v L=>v=.int .i64 S.seq∧L=[]):=by
 refine TF 10 Tryz.func91 rfl ym tabOk rfl rfl ?_
 refine xjq ?_
 refine xlh ?_
 refine zop ?_
 refine xjr ?_
 exact xfa
def outV(o:Option OutM):Value:=.tuple #[.agg (outC (o.getD outZ')).toArray,.bool o.isSome]
theorem coutcome_spec(ok:S.Ok)(h:Blk Fr w p (cliC S y))(hs:∀x,S.out=some x→Blk Fr w y.b (sloM x)):Tri Tryz.prog 89 [.pointer (some ⟨p,0,none⟩)] Fr w [] (fun v L=>v=outV S.outcome∧L=[]):=by
 have hv:∀o,S.out=o→(cliC S y)[8]?=some (sloV o y.b):=fun o e=>by rw[←e];rfl
 refine TF 22 Tryz.func89 rfl ym tabOk rfl rfl ?_
 refine CS (CG (VG (VO.alloc rfl fun b2=>?_)))
 refine xjq ?_
 refine xlh ?_
 refine xjq ?_
 refine VG (VY 7 false rfl rfl ?_)
 refine xjq ?_
 unfold CliM.outcome
 cases ho:S.out with
 | none=>
  refine VG (VO.load (v:=.pointer none) rfl rfl (RdL.blk h (hv _ ho)) ?_)
  refine zos ?_
  refine VG (VL 0 (outC outZ') rfl rfl rfl rfl ?_)
  refine xjt ?_
  refine xjq ?_
  exact xju
 | some x=>
  refine xli ?_
  refine zop ?_
  refine xjq ?_
  refine xli ?_
  refine VG (VV (fun Fr w hF hw _=>sget_spec Fr w x ((hs x ho).of hF hw)) rfl ?_)
  refine xjq ?_
  refine VG (VT (vs:=outC (x.getD outZ')) (cs':=outC (x.getD outZ')) 0 rfl rfl rfl rfl (NR _) rfl rfl rfl ?_)
  refine xjq ?_
  exact CR (Ret.cellTmp 2 3 rfl rfl rfl (RdL.many (ds:=outC (x.getD outZ')) 0 rfl rfl) rfl Imp.nil.ent ⟨rfl,rfl⟩)
theorem question_spec:Tri Tryz.prog 221 [] Fr w [] (fun v L=>∃sb,v=.slice (some ⟨sb,0,none⟩) 1 1∧L=[pt sb (sdC (sent0 16 { FrameM.zero with kind:=7 })) sndT]):=by
 refine TF 4 Tryz.func221 rfl ym tabOk rfl rfl ?_
 refine xjp ?_
 refine VG (VI (LB (pv:=[(0,.int .i64 7)]) (({ FrameM.zero with kind:=7 }:FrameM).cells (none,0,0)) rfl rfl rfl ym rfl) ?_)
 refine VG (VI (LB (pv:=[(0,.int .i64 16),(1,.agg (({ FrameM.zero with kind:=7 }:FrameM).cells (none,0,0)).toArray)]) (sdC (sent0 16 { FrameM.zero with kind:=7 })) rfl rfl rfl ym rfl) ?_)
 refine VG (VO.buildSlice (pv:=[(0,.agg (sdC (sent0 16 { FrameM.zero with kind:=7 })).toArray)]) (sdC (sent0 16 { FrameM.zero with kind:=7 })) rfl rfl rfl rfl yo (fill_one rfl rfl rfl) fun sb=>?_)
 refine xjp ?_
 exact CR (Ret.tmp 0 rfl rfl ER ⟨sb,rfl,rfl⟩)
theorem cask_spec(ok:S.Ok)(now:Int):Tri Tryz.prog 153 [.pointer (some ⟨p,0,none⟩),.int .i64 now] Fr w [cliH p S] (fun v L=>sentX (S.ask now).2 v L [cliH p (S.ask now).1]):=by
 refine TF 13 Tryz.func153 rfl ym tabOk rfl rfl ?_
 refine xlj ?_
 rintro y -
 show VC _ _ _ [pt p (cliC S y) cliT,pt y.q (bktC S.tok) bktT,slH memT 2 y.a S.ch.ms.length y.c (flat memC S.ch.ms),sloP S.out y.b] _
 refine xjp ?_
 refine VG (VO.st 0 (cs':=cliC { S with doing:=1 } y) rfl rfl rfl rfl ybu rfl rfl ?_)
 refine VG (VO.st 0 (cs':=cliC { S with doing:=1,since:=now } y) rfl rfl rfl rfl (by show 10<21;omega) rfl rfl ?_)
 refine xjp ?_
 refine xlk ?_
 rintro _ _ ⟨sb,rfl,rfl⟩
 refine xjp ?_
 exact CR (Ret.tmp 4 rfl rfl (cli_one (S:={ S with doing:=1,since:=now }) (y:=y) (R:=[])).ent (sent_0 rfl rfl))
end
end Cl
namespace Cl
open Go Vg T Api Ch Rep
attribute [local irreducible] VO VC VA
section
variable {p:Nat} {S:CliM}
theorem ctry_spec(ok:S.Ok)(now:Int):Tri Tryz.prog 152 [.pointer (some ⟨p,0,none⟩),.int .i64 now] Fr w [cliH p S] (fun v L=>sentX (S.try_ now).2 v L [cliH p (S.try_ now).1]):=by
 have hr0:=ok.r0
 have hr1:=ok.r1
 have hml:=ok.ml
 refine TF 68 Tryz.func152 rfl ym tabOk rfl rfl ?_
 refine xlj ?_
 rintro y -
 show VC _ _ _ [pt p (cliC S y) cliT,pt y.q (bktC S.tok) bktT,slH memT 2 y.a S.ch.ms.length y.c (flat memC S.ch.ms),sloP S.out y.b] _
 refine xdf ?_
 refine zok ?_
 refine VG (VO.st 0 (cs':=cliC { S with tries:=S.tries+1 } y) rfl rfl rfl rfl (by show 14<21;omega) rfl rfl ?_)
 refine xjp ?_
 refine VG (VO.st 0 (cs':=cliC { S with tries:=S.tries+1,doing:=2 } y) rfl rfl rfl rfl ybu rfl rfl ?_)
 refine VG (VO.st 0 (cs':=cliC (S.tried now) y) rfl rfl rfl rfl (by show 10<21;omega) rfl rfl ?_)
 refine xjp ?_
 refine VG (VL 0 (S.ch.cells y.a y.c) rfl rfl rfl rfl ?_)
 refine VG (VV (fun Fr w hF hw hS=>head_spec Fr w (c:=S.ch) (RwIn.slH memC_len (hS.at_ 2 rfl)) yd) rfl (VG (VN ?_)))
 refine CS (VC.meetS (σ:=Int) (fun to=>[(0,pV p),(5,.int .i64 to)]) (fun _=>[pt p (cliC (S.tried now) y) cliT,pt y.q (bktC S.tok) bktT,slH memT 2 y.a S.ch.ms.length y.c (flat memC S.ch.ms),sloP S.out y.b]) (fun to=>to=(S.tried now).to) ?_ ?_)
 ·refine xjp ?_
  refine VG (VL 0 S.op.cells rfl rfl rfl rfl ?_)
  refine VG (VV (fun Fr w hF hw hS=>Kv.reads_spec Fr w S.op) rfl ?_)
  refine xjp ?_
  refine CC rfl (fun h=>?_) (fun h=>CK ?_)
  ·refine xjp ?_
   refine VG (VL 0 (S.ch.cells y.a y.c) rfl rfl rfl rfl ?_)
   refine VG (VV (fun Fr w hF hw hS=>tail_spec Fr w (c:=S.ch) (RwIn.slH memC_len (hS.at_ 2 rfl)) yd) rfl ?_)
   refine xjp ?_
   exact⟨_,by show tailOf S.ch=if readsO S.op=true then tailOf S.ch else headOf S.ch;rw[show readsO S.op=true from h];rfl,SC rfl (SC rfl (SN _)),ER⟩
  ·exact⟨_,by show headOf S.ch=if readsO S.op=true then tailOf S.ch else headOf S.ch;rw[show readsO S.op=false from h];rfl,SC rfl (SC rfl (SN _)),ER⟩
 rintro to hto
 unfold CliM.try_
 rw[←hto]
 refine CS (CD (ts 0 32 (.only 32 (.take 33 .nil))) ym yr ?_)
 refine xeh ?_
 refine AG (VA.ldA 0 S.op.cells rfl rfl rfl rfl rfl ?_)
 refine AG (AI rfl (LB (pv:=[(0,.int .i64 1),(1,.int .i64 S.ch.epoch),(2,.int .i64 S.id),(3,.int .i64 S.seq),(4,.int .i64 (S.tries+1)),(5,.int .i64 S.cl),(6,.int .i64 S.deadline),(7,.agg S.op.cells.toArray)]) ((callF (S.tried now)).cells (none,0,0)) rfl rfl rfl ym rfl) ?_)
 refine AG (AI rfl (LB (pv:=[(0,.int .i64 to),(1,.agg ((callF (S.tried now)).cells (none,0,0)).toArray)]) (sdC (sent0 to (callF (S.tried now)))) rfl rfl rfl ym rfl) ?_)
 refine AG (AO (OpT.buildSlice (n:=1) (pv:=[(0,.agg (sdC (sent0 to (callF (S.tried now)))).toArray)]) (cells:=sdC (sent0 to (callF (S.tried now)))) rfl rfl rfl rfl yo (fill_one rfl rfl rfl)) rfl (fun v L' g=>by obtain⟨b,rfl,rfl⟩:=g;exact yu) ?_)
 rintro _ _ ⟨sb,rfl,rfl⟩
 refine xjs ?_
 exact CR (Ret.tmp 4 rfl rfl (cli_one (S:=S.tried now) (y:=y) (R:=[])).ent (sent_0 rfl rfl))
theorem cend_spec(ho:S.out=some none){o:OutM}(h1:1≤o.kind)(h2:o.kind≤3):Tri Tryz.prog 240 [.pointer (some ⟨p,0,none⟩),.agg (outC o).toArray] Fr w [cliH p S] (fun v L=>v=.tuple #[]∧L=[cliH p (S.end_ o)]):=by
 refine TF 13 Tryz.func240 rfl ym tabOk rfl rfl ?_
 refine CS (CG (VG (VB (vs:=outC o) rfl fun b3=>VG (VN ?_))))
 refine VC.opn 1 rfl (HOpn.cli p S) ?_
 rintro y -
 have hv:(cliC S y)[8]?=some (.pointer (some ⟨y.b,0,none⟩)):=by show some (sloV S.out y.b)=_;rw[ho];rfl
 have hp:sloP S.out y.b=pt y.b (sloM none) sloT:=by rw[ho];rfl
 have he:S.end_ o={ S with out:=some (some o),doing:=0 }:=by unfold CliM.end_ setO;rw[ho]
 rw[he]
 show VC _ _ _ [pt p (cliC S y) cliT,pt y.q (bktC S.tok) bktT,slH memT 2 y.a S.ch.ms.length y.c (flat memC S.ch.ms),sloP S.out y.b,pt b3 (outC o) outT'] _
 rw[hp]
 refine CN (L':=[pt y.b (sloM none) sloT,pt b3 (outC o) outT',pt p (cliC S y) cliT,pt y.q (bktC S.tok) bktT,slH memT 2 y.a S.ch.ms.length y.c (flat memC S.ch.ms)]) (pkZ [3,3,0,0,0]).ent ?_
 refine CS (CD (ts 0 5 (.only 5 .nil)) ym yr ?_)
 refine xjs ?_
 refine AG (VA.ld 2 rfl rfl rfl rfl hv ?_)
 refine AG (VA.ldA 1 (outC o) rfl rfl rfl rfl rfl ?_)
 refine AG (AO (OC (Lc:=[pt y.b (sloM none) sloT]) (Lr:=[pt b3 (outC o) outT',pt p (cliC S y) cliT,pt y.q (bktC S.tok) bktT,slH memT 2 y.a S.ch.ms.length y.c (flat memC S.ch.ms)]) rfl (.refl _) (fun Fr w hF hw hS=>sset_spec Fr w h1 h2)) rfl (fun v L' g=>by obtain⟨_,⟨rfl,rfl⟩,rfl⟩:=g;exact(by(try refine Pd.st ?_);(repeat(first|exact Pd.nil|exact Pd.fnil|refine Pd.inner ?_|refine Pd.skip yr ?_|refine zf (zo 0 rfl rfl) ?_|refine zf (zo 1 rfl rfl) ?_|refine zf (zo 2 rfl rfl) ?_|refine zf (zm 0 rfl rfl) ?_|refine zf (zm 1 rfl rfl) ?_|refine zf (zm 2 rfl rfl) ?_|refine zf (RdL.blk (RdL.one 2 rfl hv) rfl) ?_|refine zf ((RdL.one 2 rfl hv)) ?_|refine zc (zo 0 rfl rfl) ?_|refine zc (zo 1 rfl rfl) ?_|refine zc (zo 2 rfl rfl) ?_|refine zc (zm 0 rfl rfl) ?_|refine zc (zm 1 rfl rfl) ?_|refine zc (zm 2 rfl rfl) ?_|refine zc (RdL.blk (RdL.one 2 rfl hv) rfl) ?_|refine zc ((RdL.one 2 rfl hv)) ?_)))) ?_)
 rintro _ _ ⟨_,⟨rfl,rfl⟩,rfl⟩
 refine zou ?_
 have hc:cliC S y=cliC { S with out:=some (some o) } y:=by unfold cliC;rw[ho];rfl
 rw[hc]
 refine VG (VO.st 2 (cs':=cliC { S with out:=some (some o),doing:=0 } y) rfl rfl rfl rfl ybu rfl rfl ?_)
 refine xjp ?_
 exact Ret.void rfl (Imp.cli (S:={ S with out:=some (some o),doing:=0 }) y (IP 2 rfl (IP 2 rfl (IP 2 rfl (IP 0 rfl Imp.nil))))).ent ⟨rfl,rfl⟩
theorem cgive_spec(ho:S.out=some none)(reason:Int):Tri Tryz.prog 178 [.pointer (some ⟨p,0,none⟩),.int .i64 reason] Fr w [cliH p S] (fun v L=>sentX (S.giveUp reason).2 v L [cliH p (S.giveUp reason).1]):=by
 unfold CliM.giveUp
 refine TF 17 Tryz.func178 rfl ym tabOk rfl rfl ?_
 refine xlj ?_
 rintro y -
 show VC _ _ _ [pt p (cliC S y) cliT,pt y.q (bktC S.tok) bktT,slH memT 2 y.a S.ch.ms.length y.c (flat memC S.ch.ms),sloP S.out y.b] _
 refine xet ?_
 refine CS (VC.meetS (σ:=OutM) (fun _=>[(0,pV p)]) (fun o=>[cliH p (S.end_ o)]) (fun o=>o=if S.unsure then ⟨3,0,resZ⟩ else ⟨2,reason,resZ⟩) ?_ ?_)
 ·refine xdf ?_
  refine CC rfl (fun h=>?_) (fun h=>?_)
  ·refine xll ?_
   refine xjp ?_
   refine VG (VI (LB (pv:=[(0,.int .i64 3)]) (outC ⟨3,0,resZ⟩) rfl rfl rfl ym rfl) ?_)
   refine VG (VK (Lc:=[cliH p S]) (fun Fr w hF hw _=>cend_spec Fr w ho (o:=⟨3,0,resZ⟩) yo yo) rfl rfl ?_)
   rintro _ _ ⟨rfl,rfl⟩
   refine xjp ?_
   exact⟨_,by rw[h];rfl,SC rfl (SN _),ER⟩
  ·refine xll ?_
   refine xjp ?_
   refine VG (VI (LB (pv:=[(0,.int .i64 2),(1,.int .i64 reason)]) (outC ⟨2,reason,resZ⟩) rfl rfl rfl ym rfl) ?_)
   refine VG (VK (Lc:=[cliH p S]) (fun Fr w hF hw _=>cend_spec Fr w ho (o:=⟨2,reason,resZ⟩) (by show(1:Int)≤2;decide) (by show(2:Int)≤3;decide)) rfl rfl ?_)
   rintro _ _ ⟨rfl,rfl⟩
   refine xjp ?_
   exact⟨_,by rw[h];rfl,SC rfl (SN _),ER⟩
 rintro o rfl
 generalize (if S.unsure=true then (⟨3,0,resZ⟩:OutM) else ⟨2,reason,resZ⟩)=o
 refine xjp ?_
 refine xlk ?_
 rintro _ _ ⟨sb,rfl,rfl⟩
 refine xjp ?_
 refine CR (Ret.tmp 4 rfl rfl ?_ (sent_0 (to:=16) (f:={ FrameM.zero with kind:=7 }) (sb:=sb) rfl rfl))
 rw[flat_1]
 refine Imp.ent (Imp.trans (M:=[slH sndT 30 (some ⟨sb,0,none⟩) 1 1 (sdC (sent0 16 { FrameM.zero with kind:=7 })),memH (sent0 16 { FrameM.zero with kind:=7 }),cliH p (S.end_ o)]) ?_ (pkZ [2,0,0]))
 exact Imp.slW (n:=1) (by rw[sdC_len]) (Imp.cons (Imp.slNil Imp.refl))
end
end Cl
namespace Cl
open Go Vg T Api Ch Rep
attribute [local irreducible] VO VC VA
section
variable {p:Nat} {S:CliM}
theorem sent_none{v:Value}{L H:List HP}(hv:v=.slice none 0 0)(hL:L=H++(slH sndT 30 none 0 0 (flat sdC [])::([]:List SdG).map memH)):sentX [] v L H:=sent_nil hv hL
theorem cgoOn_spec(ok:S.Ok)(ho:S.out=some none)(reason now:Int)(h0:0≤now)(h1:now≤1099511627776):Tri Tryz.prog 177 [.pointer (some ⟨p,0,none⟩),.int .i64 reason,.int .i64 now] Fr w [cliH p S] (fun v L=>sentX (S.goOn reason now).2 v L [cliH p (S.goOn reason now).1]):=by
 unfold CliM.goOn
 refine TF 49 Tryz.func177 rfl ym tabOk rfl rfl ?_
 refine xlj ?_
 rintro y -
 show VC _ _ _ [pt p (cliC S y) cliT,pt y.q (bktC S.tok) bktT,slH memT 2 y.a S.ch.ms.length y.c (flat memC S.ch.ms),sloP S.out y.b] _
 refine xjp ?_
 refine CD (ts 0 23 (.only 23 (ts 24 2 .nil))) ym yr ?_
 refine xeu ?_
 by_cases g1:S.budget<S.tries
 ·rw[if_pos (.inl g1)]
  refine AG (AY 16 true rfl (DT g1) ?_)
  refine xeu ?_
  refine AG (AY 24 true rfl rfl ?_)
  refine zpy ?_
  refine xdz ?_
  refine xll ?_
  refine xjp ?_
  refine xlm ?_
  rintro _ _ ⟨X,sa,sc,hX,rfl,rfl⟩
  refine xjp ?_
  exact xln
 refine AG (AY 16 false rfl (DF g1) ?_)
 refine xeu ?_
 by_cases g2:S.deadline<now
 ·rw[if_pos (.inr g2)]
  refine AG (AY 24 true rfl (DT g2) ?_)
  refine zpy ?_
  refine xdz ?_
  refine xll ?_
  refine xjp ?_
  refine xlm ?_
  rintro _ _ ⟨X,sa,sc,hX,rfl,rfl⟩
  refine xjp ?_
  exact xln
 rw[if_neg (fun h=>h.elim g1 g2)]
 refine AG (AY 24 false rfl (DF g2) ?_)
 refine xeu ?_
 refine AG (AO (OC (Lc:=[pt y.q (bktC S.tok) bktT]) (Lr:=[pt p (cliC S y) cliT,slH memT 2 y.a S.ch.ms.length y.c (flat memC S.ch.ms),sloP S.out y.b]) rfl (.swap _ _ _) (fun Fr w hF hw hS=>btake_spec Fr w ok.tok now)) rfl (fun v L' g=>by obtain⟨_,⟨rfl,rfl⟩,rfl⟩:=g;exact yu) ?_)
 rintro _ _ ⟨_,⟨rfl,rfl⟩,rfl⟩
 refine xld ?_
 refine VC.condN rfl (fun hb=>?_) (fun hb=>CK ?_)
 ·rw[if_neg (by rw[hb];decide)]
  refine CN (L':=[cliH p (S.took now)]) (Imp.cli (S:=S.took now) y (pkZ [1,0,0,0])).ent ?_
  refine xjp ?_
  refine VG (VK (Lc:=[cliH p (S.took now)]) (Lr:=[]) (fun Fr w hF hw _=>cgive_spec (S:=S.took now) Fr w ho reason) rfl rfl ?_)
  rintro _ _ ⟨X,sa,sc,hX,rfl,rfl⟩
  refine xjp ?_
  exact xln
 rw[if_pos hb]
 have hg:=gap_r S.tries 64
 refine xjp ?_
 refine VG (VO.st 1 (cs':=cliC { S with doing:=3 } y) rfl rfl rfl rfl ybu rfl rfl ?_)
 refine xds ?_
 refine VG (VV (fun Fr w hF hw _=>gap_spec Fr w S.tries 64) rfl ?_)
 refine zok ?_
 refine VG (VO.st 1 (cs':=cliC ((S.took now).pause now) y) rfl rfl rfl rfl (by show 11<21;omega) rfl rfl ?_)
 refine xjp ?_
 refine CR (Ret.tmp 6 rfl rfl ?_ (sent_none rfl rfl))
 exact(Imp.trans (M:=cliL p ((S.took now).pause now) y ++ []) (pkZ [1,0,0,0]) cli_none).ent
theorem crefused_spec(ok:S.Ok)(ho:S.out=some none)(reason now:Int)(h0:0≤now)(h1:now≤1099511627776):Tri Tryz.prog 279 [.pointer (some ⟨p,0,none⟩),.int .i64 reason,.int .i64 now] Fr w [cliH p S] (fun v L=>sentX (S.refused reason now).2 v L [cliH p (S.refused reason now).1]):=by
 have ok2:({ S with unsure:=true }:CliM).Ok:=⟨ok.c0,ok.c1,ok.t0,ok.t1,ok.b0,ok.b1,ok.tok,ok.ml,ok.out,ok.s0,ok.s1,ok.q0,ok.r0,ok.r1,ok.rb⟩
 unfold CliM.refused
 refine TF 25 Tryz.func279 rfl ym tabOk rfl rfl ?_
 refine xet ?_
 refine CS (CS (CG (VG (VN ?_))))
 refine VC.meetS (σ:=CliM) (fun _=>[(0,pV p),(1,.int .i64 reason),(2,.int .i64 now)]) (fun S'=>[cliH p S']) (fun S'=>(S'={ S with unsure:=true }∧(reason=6∨reason=5∨reason=7))∨(S'=S∧¬(reason=6∨reason=5∨reason=7)∧¬(reason=2∨reason=10))) ?_ ?_
 rotate_left
 ·rintro S' hS
  have key:S'.Ok∧S'.out=some none∧(if reason=6∨reason=5∨reason=7 then ({ S with unsure:=true }:CliM).goOn reason now else if reason=2∨reason=10 then S.giveUp reason else S.goOn reason now)=S'.goOn reason now:=by
   rcases hS with ⟨rfl,h⟩ | ⟨rfl,h,h'⟩
   ·exact⟨ok2,ho,if_pos h⟩
   ·exact⟨ok,ho,by rw[if_neg h,if_neg h']⟩
  rw[key.2.2]
  refine xjp ?_
  refine VG (VK (Lc:=[cliH p S']) (Lr:=[]) (fun Fr w hF hw _=>cgoOn_spec Fr w key.1 key.2.1 reason now h0 h1) rfl rfl ?_)
  rintro _ _ ⟨X,sa,sc,hX,rfl,rfl⟩
  refine xjp ?_
  exact xln
 refine VC.block ?_
 refine CS (VC.meetS (σ:=Bool) (fun b=>[(0,pV p),(1,.int .i64 reason),(2,.int .i64 now),(7,.int .i64 reason),(8,.bool b)]) (fun _=>[cliH p S]) (fun b=>b=true↔(reason=6∨reason=5∨reason=7)) ?_ ?_)
 ·refine xjp ?_
  refine CE rfl (fun k=>CK ?_) (fun k=>?_)
  ·exact⟨true,by simp[k],SC rfl (SC rfl (SC rfl (SC rfl (Sub.bl rfl (beq_iff_eq.2 k) (SN _))))),ER⟩
  refine xjp ?_
  refine CE rfl (fun k5=>CK ?_) (fun k5=>?_)
  ·exact⟨true,by simp[k5],SC rfl (SC rfl (SC rfl (SC rfl (Sub.bl rfl (beq_iff_eq.2 k5) (SN _))))),ER⟩
  refine xjp ?_
  exact⟨decide (reason=7),by simp[k,k5],SC rfl (SC rfl (SC rfl (SC rfl (Sub.bl rfl rfl (SN _))))),ER⟩
 rintro b hb
 refine xjp ?_
 refine CC rfl (fun k=>?_) (fun k=>?_)
 ·have k:=hb.1 k
  refine xlj ?_
  rintro y -
  show VC _ _ _ [pt p (cliC S y) cliT,pt y.q (bktC S.tok) bktT,slH memT 2 y.a S.ch.ms.length y.c (flat memC S.ch.ms),sloP S.out y.b] _
  refine xjp ?_
  refine xlo ?_
  refine xjp ?_
  exact⟨{ S with unsure:=true },.inl ⟨rfl,k⟩,sbZ,(Imp.cli (S:={ S with unsure:=true }) y Imp.refl).ent⟩
 have k:¬(reason=6∨reason=5∨reason=7):=fun h=>by rw[hb.2 h] at k;cases k
 refine CS (VC.meetS (σ:=Bool) (fun b=>[(0,pV p),(1,.int .i64 reason),(2,.int .i64 now),(15,.bool b)]) (fun _=>[cliH p S]) (fun b=>b=true↔(reason=2∨reason=10)) ?_ ?_)
 ·refine xjp ?_
  refine CE rfl (fun k=>CK ?_) (fun k=>?_)
  ·exact⟨true,by simp[k],SC rfl (SC rfl (SC rfl (Sub.bl rfl (beq_iff_eq.2 k) (SN _)))),ER⟩
  refine xjp ?_
  exact⟨decide (reason=10),by simp[k],SC rfl (SC rfl (SC rfl (Sub.bl rfl rfl (SN _)))),ER⟩
 rintro b2 hb2
 refine xjp ?_
 refine CC rfl (fun k2=>?_) (fun k2=>CK ?_)
 ·rw[if_neg k,if_pos (hb2.1 k2)]
  refine xjp ?_
  refine xlm ?_
  rintro _ _ ⟨X,sa,sc,hX,rfl,rfl⟩
  refine xjp ?_
  exact xln
 ·exact⟨S,.inr ⟨rfl,k,fun h=>by rw[hb2.2 h] at k2;cases k2⟩,sbZ,ER⟩
end
end Cl
namespace Cl
open Go Vg T Api Ch Rep Rd
attribute [local irreducible] VO VC VA
section
variable {p:Nat} {S:CliM}
theorem ctake_spec(ok:S.Ok)(f:FrameM){ma:Option Addr}{mc:Nat}{ms:List MemM}(hm:RwIn memC 2 Fr w ma ms)(hml:ms.length≤1000000)(now:Int):Tri Tryz.prog 246 [.pointer (some ⟨p,0,none⟩),.agg (f.cells (ma,ms.length,mc)).toArray,.int .i64 now] Fr w [cliH p S] (fun v L=>sentX (S.take f ms now).2 v L [cliH p (S.take f ms now).1]):=by
 have htk:=tickN_r now
 unfold CliM.take
 generalize htn:tickN now=tn at htk
 generalize hfc:f.cells (ma,ms.length,mc)=fc
 have hkd:fc[0]?=some (.int .i64 f.kind):=by rw[←hfc];rfl
 have hch:(fc.drop 23).take 3=ChM.cells ⟨f.cepoch,ms,f.drain⟩ ma mc:=by rw[←hfc];rfl
 have hep:fc[23]?=some (.int .i64 f.cepoch):=by rw[←hfc];rfl
 have hmm:fc[24]?=some (.slice ma ms.length mc):=by rw[←hfc];rfl
 have hcl:fc[2]?=some (.int .i64 f.client):=by rw[←hfc];rfl
 have hsq:fc[3]?=some (.int .i64 f.seq):=by rw[←hfc];rfl
 have hty:fc[4]?=some (.int .i64 f.try_):=by rw[←hfc];rfl
 have hrs:fc[15]?=some (.int .i64 f.reason):=by rw[←hfc];rfl
 have hre:(fc.drop 11).take 4=[.int .i64 f.res.code,.string f.res.value,.int .i64 f.res.version,.int .i64 f.res.at_]:=by rw[←hfc];rfl
 refine TF 118 Tryz.func246 rfl ym tabOk rfl rfl ?_
 refine CS (CG (VG (VB (vs:=fc) rfl fun fb=>VG (VN ?_))))
 refine VC.opn 1 rfl (HOpn.cli p S) ?_
 rintro y -
 show VC _ _ _ [pt p (cliC S y) cliT,pt y.q (bktC S.tok) bktT,slH memT 2 y.a S.ch.ms.length y.c (flat memC S.ch.ms),sloP S.out y.b,pt fb fc frT] _
 have mid:Ent ⟨Tryz.prog,tab,tabOk,118,Fr,w⟩ [pt p (cliC S y) cliT,pt y.q (bktC S.tok) bktT,slH memT 2 y.a S.ch.ms.length y.c (flat memC S.ch.ms),sloP S.out y.b,pt fb fc frT] ([cliH p S] ++ [pt fb fc frT]):=(Imp.cli (K:=[pt fb fc frT]) y Imp.refl).ent
 refine xjp ?_
 refine xlp ?_
 refine zox ?_
 refine xlq ?_
 rw[htn]
 refine xjp ?_
 refine VG (VO.ld 4 rfl rfl rfl hkd ?_)
 refine xjp ?_
 refine CE rfl (fun k8=>?_) (fun k8=>?_)
 ·rw[if_pos k8]
  refine xjp ?_
  refine CD (ts 0 2 (.only 2 (ts 3 12 .nil))) ym yr ?_
  refine xld ?_
  refine AG (VA.ldA 4 (ChM.cells ⟨f.cepoch,ms,f.drain⟩ ma mc) rfl rfl rfl rfl hch ?_)
  refine AG (AR (fun Fr w hF hw hS=>Ch.check_spec Fr w (c:=⟨f.cepoch,ms,f.drain⟩) (hm.of hF hw) ybe) rfl rfl (by(try refine Pd.st ?_);(repeat(first|exact Pd.nil|exact Pd.fnil|refine Pd.inner ?_|refine Pd.skip yr ?_|refine zf (zo 0 rfl rfl) ?_|refine zf (zo 1 rfl rfl) ?_|refine zf (zo 2 rfl rfl) ?_|refine zf (zo 3 rfl rfl) ?_|refine zf (zm 0 rfl rfl) ?_|refine zf (zm 1 rfl rfl) ?_|refine zf (zm 2 rfl rfl) ?_|refine zf (zm 3 rfl rfl) ?_|refine zf (RdL.blk (RdL.many 4 rfl hch) rfl) ?_|refine zf ((RdL.many 4 rfl hch)) ?_|refine zc (zo 0 rfl rfl) ?_|refine zc (zo 1 rfl rfl) ?_|refine zc (zo 2 rfl rfl) ?_|refine zc (zo 3 rfl rfl) ?_|refine zc (zm 0 rfl rfl) ?_|refine zc (zm 1 rfl rfl) ?_|refine zc (zm 2 rfl rfl) ?_|refine zc (zm 3 rfl rfl) ?_|refine zc (RdL.blk (RdL.many 4 rfl hch) rfl) ?_|refine zc ((RdL.many 4 rfl hch)) ?_))) ?_)
  refine xld ?_
  by_cases hc:chE ⟨f.cepoch,ms,f.drain⟩=0
  rotate_left
  ·rw[if_pos (.inl hc)]
   refine AG (AY 20 true rfl (by rw[bne_iff_ne];exact hc) ?_)
   refine xld ?_
   refine VC.condT rfl (CX ?_)
   exact zpo
  have hc6:=(ch_size hc).2.1
  dsimp only at hc6
  refine AG (AY 20 false rfl (by rw[bne_eq_false_iff_eq];exact hc) ?_)
  refine xld ?_
  refine AG (VA.ld 4 rfl rfl rfl rfl hep ?_)
  refine xeu ?_
  refine CP (p:=f.cepoch<S.ch.epoch) rfl (fun he=>CX ?_) (fun he=>CK ?_)
  ·rw[if_pos (.inr he)]
   exact zpo
  rw[if_neg (fun h=>h.elim (fun k=>k hc) he)]
  refine xjp ?_
  refine VG (VL 4 (ChM.cells ⟨f.cepoch,ms,f.drain⟩ ma mc) rfl rfl rfl hch ?_)
  refine VG (VT (vs:=ChM.cells ⟨f.cepoch,ms,f.drain⟩ ma mc) (cs':=cliC { S with ch:=⟨f.cepoch,ms,f.drain⟩ } { y with a:=ma,c:=mc }) 0 rfl rfl rfl rfl (by show 5+3≤21;omega) rfl rfl rfl ?_)
  refine xjp ?_
  refine VG (VO.ld 4 rfl rfl rfl hmm ?_)
  refine VO.ent (L':=[slH memT 2 none 0 0 [],pt p (cliC { S with ch:=⟨f.cepoch,ms,f.drain⟩ } { y with a:=ma,c:=mc }) cliT,pt y.q (bktC S.tok) bktT,sloP S.out y.b,pt fb fc frT]) (Imp.slNil (pkZ [0,0,1,1])).ent ?_
  refine VG (VO.append (m:=ms.length) (news:=flat memC ms) 0 rfl rfl rfl rfl rfl rfl rfl (RwIn.row memC_len hm) (flat_all memC_one _) (by show(0+ms.length)*16≤_;omega) yd fun a' c' _=>?_)
  rw[Nat.zero_add,List.nil_append]
  refine xjp ?_
  refine VG (VO.st 1 (cs':=cliC { S with ch:=⟨f.cepoch,ms,f.drain⟩ } { y with a:=a',c:=c' }) rfl rfl rfl rfl (by show 6<21;omega) rfl rfl ?_)
  have ok2:({ S with ch:=⟨f.cepoch,ms,f.drain⟩ }:CliM).Ok:=⟨ok.c0,ok.c1,ok.t0,ok.t1,ok.b0,ok.b1,ok.tok,hc6,ok.out,ok.s0,ok.s1,ok.q0,ok.r0,ok.r1,ok.rb⟩
  refine VO.ent (L':=[pt p (cliC { S with ch:=⟨f.cepoch,ms,f.drain⟩ } { y with a:=a',c:=c' }) cliT,pt y.q (bktC S.tok) bktT,slH memT 2 a' ms.length c' (flat memC ms),sloP S.out y.b]) (pkZ [1,1,0,0]).ent ?_
  refine xdf ?_
  refine CE rfl (fun h1=>?_) (fun h1=>CK ?_)
  ·rw[if_pos h1]
   refine CN (L':=[cliH p { S with ch:=⟨f.cepoch,ms,f.drain⟩ }]) (Imp.cli (S:={ S with ch:=⟨f.cepoch,ms,f.drain⟩ }) { y with a:=a',c:=c' } Imp.refl).ent ?_
   refine xjp ?_
   refine VG (VK (Lc:=[cliH p { S with ch:=⟨f.cepoch,ms,f.drain⟩ }]) (Lr:=[]) (fun Fr w hF hw _=>ctry_spec Fr w ok2 tn) rfl rfl ?_)
   rintro _ _ ⟨X,sa,sc,hX,rfl,rfl⟩
   refine xjp ?_
   exact xln
  ·rw[if_neg h1]
   refine xjp ?_
   exact CR (Ret.tmp 6 rfl rfl (cli_none (S:={ S with ch:=⟨f.cepoch,ms,f.drain⟩ }) (y:={ y with a:=a',c:=c' }) (R:=[])).ent (sent_none rfl rfl))
 rw[if_neg k8]
 refine xjp ?_
 refine CE rfl (fun k2=>?_) (fun k2=>?_)
 ·rw[if_pos k2]
  refine xjp ?_
  refine CD (ts 0 1 (.only 1 (ts 2 18 .nil))) ym yr ?_
  refine xld ?_
  refine AG (AR (fun Fr w hF hw hS=>cbusy_spec Fr w ok (hS.blk 0 rfl)) rfl rfl yu ?_)
  refine xld ?_
  by_cases hb:S.doing=0
  ·rw[if_neg (fun h=>h.1 hb)]
   refine AG (AY 56 false rfl (by rw[bne_eq_false_iff_eq];exact hb) ?_)
   refine xld ?_
   refine AG (AY 65 false rfl rfl ?_)
   refine zqe ?_
   exact zpo
  refine AG (AY 56 true rfl (by rw[bne_iff_ne];exact hb) ?_)
  refine xld ?_
  refine AG (VA.ld 4 rfl rfl rfl rfl hcl ?_)
  refine xeu ?_
  by_cases hi:f.client=S.id
  rotate_left
  ·rw[if_neg (fun h=>hi h.2.1)]
   refine AG (AY 65 false rfl (beq_eq_false_iff_ne.2 hi) ?_)
   refine zqe ?_
   exact zpo
  refine AG (AY 65 true rfl (beq_iff_eq.2 hi) ?_)
  refine xld ?_
  refine AG (VA.ld 4 rfl rfl rfl rfl hsq ?_)
  refine xeu ?_
  refine CE rfl (fun hs=>?_) (fun hs=>CK ?_)
  ·rw[if_pos ⟨hb,hi,hs⟩]
   refine xjp ?_
   refine VG (VL 4 [.int .i64 f.res.code,.string f.res.value,.int .i64 f.res.version,.int .i64 f.res.at_] rfl rfl rfl hre ?_)
   refine VG (VI (LB (pv:=[(0,.int .i64 1),(2,.agg ([.int .i64 f.res.code,.string f.res.value,.int .i64 f.res.version,.int .i64 f.res.at_]:List Value).toArray)]) (outC ⟨1,0,f.res⟩) rfl rfl rfl ym rfl) ?_)
   refine VO.ent mid ?_
   refine VG (VK (Lc:=[cliH p S]) (Lr:=[pt fb fc frT]) (fun Fr w hF hw _=>cend_spec Fr w (ok.out hb) (o:=⟨1,0,f.res⟩) (by show(1:Int)≤1;decide) (by show(1:Int)≤3;decide)) rfl rfl ?_)
   rintro _ _ ⟨rfl,rfl⟩
   refine xjp ?_
   exact CR (Ret.tmp 6 rfl rfl ((Imp.slNil (Imp.refl (L:=[cliH p (S.end_ ⟨1,0,f.res⟩),pt fb fc frT]))).trans (IP 1 rfl (IP 0 rfl Imp.nil))).ent (sent_none rfl rfl))
  ·rw[if_neg (fun h=>hs h.2.2)]
   exact zpo
 rw[if_neg k2]
 refine xjp ?_
 refine CE rfl (fun k3=>?_) (fun k3=>CK ?_)
 rotate_left
 ·rw[if_neg k3]
  exact zpo
 rw[if_pos k3]
 refine xjp ?_
 refine CD (ts 0 32 .nil) ym yr ?_
 refine xeu ?_
 by_cases hd:S.doing=2
 rotate_left
 ·rw[if_neg (fun h=>hd h.1)]
  refine AG (AY 86 false rfl (beq_eq_false_iff_ne.2 hd) ?_)
  refine xld ?_
  refine AG (AY 95 false rfl rfl ?_)
  refine xld ?_
  refine AG (AY 104 false rfl rfl ?_)
  refine zqe ?_
  exact zpo
 refine AG (AY 86 true rfl (beq_iff_eq.2 hd) ?_)
 refine xld ?_
 refine AG (VA.ld 4 rfl rfl rfl rfl hcl ?_)
 refine xeu ?_
 by_cases hi:f.client=S.id
 rotate_left
 ·rw[if_neg (fun h=>hi h.2.1)]
  refine AG (AY 95 false rfl (beq_eq_false_iff_ne.2 hi) ?_)
  refine xld ?_
  refine AG (AY 104 false rfl rfl ?_)
  refine zqe ?_
  exact zpo
 refine AG (AY 95 true rfl (beq_iff_eq.2 hi) ?_)
 refine xld ?_
 refine AG (VA.ld 4 rfl rfl rfl rfl hsq ?_)
 refine xeu ?_
 by_cases hs:f.seq=S.seq
 rotate_left
 ·rw[if_neg (fun h=>hs h.2.2.1)]
  refine AG (AY 104 false rfl (beq_eq_false_iff_ne.2 hs) ?_)
  refine zqe ?_
  exact zpo
 refine AG (AY 104 true rfl (beq_iff_eq.2 hs) ?_)
 refine xld ?_
 refine AG (VA.ld 4 rfl rfl rfl rfl hty ?_)
 refine xeu ?_
 refine CE rfl (fun ht=>?_) (fun ht=>CK ?_)
 ·rw[if_pos ⟨hd,hi,hs,ht⟩]
  refine xjp ?_
  refine VG (VO.ld 4 rfl rfl rfl hrs ?_)
  refine xjp ?_
  refine VO.ent mid ?_
  refine VG (VK (Lc:=[cliH p S]) (Lr:=[pt fb fc frT]) (fun Fr w hF hw _=>crefused_spec Fr w ok (ok.out (by rw[hd];decide)) f.reason tn htk.1 htk.2) rfl rfl ?_)
  rintro _ _ ⟨X,sa,sc,hX,rfl,rfl⟩
  refine xjp ?_
  refine CR (Ret.tmp 6 rfl rfl (L':=[cliH p (S.refused f.reason tn).1]++(slH sndT 30 sa X.length sc (flat sdC X)::X.map memH)) ?_ ⟨X,sa,sc,hX,rfl,rfl⟩)
  exact((Imp.perm List.perm_append_comm).trans Imp.dropL).ent
 ·rw[if_neg (fun h=>ht h.2.2.2)]
  exact zpo
end
end Cl
namespace Cl
open Go Vg T Api Ch Rep Rd Conf Sched
attribute [local irreducible] VO VC VA
section
variable {S:CliM}
theorem CliM.Ok.ask(ok:S.Ok)(h:S.tries≤16)(ho:S.out=some none){now:Int}(h0:0≤now)(h1:now≤1099511627776):(S.ask now).1.Ok:=
 ⟨ok.c0,ok.c1,ok.t0,ok.t1,ok.b0,ok.b1,ok.tok,ok.ml,fun _=>ho,h0,h1,ok.q0,ok.r0,ok.r1,fun _=>h⟩
theorem CliM.Ok.try_(ok:S.Ok)(h:S.tries≤16)(ho:S.out=some none){now:Int}(h0:0≤now)(h1:now≤1099511627776):(S.try_ now).1.Ok:=by
 have:=ok.r0
 exact⟨ok.c0,ok.c1,ok.t0,ok.t1,ok.b0,ok.b1,ok.tok,ok.ml,fun _=>ho,h0,h1,ok.q0,by show 0≤S.tries+1;omega,by show S.tries+1≤17;omega,fun e=>by rcases e with e | e<;>exact absurd (show(2:Int)=_ from e) yo⟩
theorem CliM.Ok.end_(ok:S.Ok)(o:OutM):(S.end_ o).Ok:=
 ⟨ok.c0,ok.c1,ok.t0,ok.t1,ok.b0,ok.b1,ok.tok,ok.ml,fun e=>absurd rfl e,ok.s0,ok.s1,ok.q0,ok.r0,ok.r1,fun e=>by rcases e with e | e<;>exact absurd (show(0:Int)=_ from e) yo⟩
theorem CliM.Ok.giveUp(ok:S.Ok)(r:Int):(S.giveUp r).1.Ok:=ok.end_ _
theorem CliM.Ok.goOn(ok:S.Ok)(ho:S.out=some none)(r now:Int):(S.goOn r now).1.Ok:=by
 unfold CliM.goOn
 split
 ·exact ok.giveUp r
 rename_i h
 have:=ok.b1
 have ok2:(S.took now).Ok:=⟨ok.c0,ok.c1,ok.t0,ok.t1,ok.b0,ok.b1,ok.tok.take now,ok.ml,ok.out,ok.s0,ok.s1,ok.q0,ok.r0,ok.r1,ok.rb⟩
 split
 ·exact⟨ok.c0,ok.c1,ok.t0,ok.t1,ok.b0,ok.b1,ok.tok.take now,ok.ml,fun _=>ho,ok.s0,ok.s1,ok.q0,ok.r0,ok.r1,fun _=>by show S.tries≤16;omega⟩
 ·exact ok2.giveUp r
theorem CliM.Ok.unsure(ok:S.Ok):({ S with unsure:=true }:CliM).Ok:=⟨ok.c0,ok.c1,ok.t0,ok.t1,ok.b0,ok.b1,ok.tok,ok.ml,ok.out,ok.s0,ok.s1,ok.q0,ok.r0,ok.r1,ok.rb⟩
theorem CliM.Ok.refused(ok:S.Ok)(ho:S.out=some none)(r now:Int):(S.refused r now).1.Ok:=by
 unfold CliM.refused
 split
 ·exact ok.unsure.goOn ho r now
 split
 ·exact ok.giveUp r
 ·exact ok.goOn ho r now
theorem CliM.Ok.take(ok:S.Ok)(f:FrameM)(ms:List MemM)(now:Int):(S.take f ms now).1.Ok:=by
 have ht:=tickN_r now
 unfold CliM.take
 split
 ·split
  ·exact ok
  rename_i hc
  have hc0:chE ⟨f.cepoch,ms,f.drain⟩=0:=Classical.byContradiction fun e=>hc (.inl e)
  have ok2:({ S with ch:=⟨f.cepoch,ms,f.drain⟩ }:CliM).Ok:=⟨ok.c0,ok.c1,ok.t0,ok.t1,ok.b0,ok.b1,ok.tok,(ch_size hc0).2.1,ok.out,ok.s0,ok.s1,ok.q0,ok.r0,ok.r1,ok.rb⟩
  split
  ·rename_i h1
   exact ok2.try_ (ok.rb (.inl h1)) (ok.out (by rw[h1];decide)) ht.1 ht.2
  ·exact ok2
 split
 ·split
  ·exact ok.end_ _
  ·exact ok
 split
 ·split
  ·rename_i h
   exact ok.refused (ok.out (by rw[h.1];decide)) _ _
  ·exact ok
 ·exact ok
theorem CliM.Ok.tick(ok:S.Ok)(now:Int):(S.tick now).1.Ok:=by
 have ht:=tickN_r now
 unfold CliM.tick
 split
 ·rename_i h
  split
  ·exact ok.unsure.goOn (ok.out ybw) _ _
  ·exact ok
 split
 ·rename_i h
  split
  ·exact ok
  split
  ·exact ok.giveUp _
  ·exact ok.ask (ok.rb (.inl h)) (ok.out ybw) ht.1 ht.2
 split
 ·rename_i h
  split
  ·exact ok.ask (ok.rb (.inr h)) (ok.out ybw) ht.1 ht.2
  ·exact ok
 ·exact ok
theorem CliM.Ok.begun(ok:S.Ok)(o:OpM)(cl d:Int):(S.begun o cl d).Ok:=by
 have:=ok.q0
 exact⟨ok.c0,ok.c1,ok.t0,ok.t1,ok.b0,ok.b1,ok.tok,ok.ml,fun _=>rfl,ok.s0,ok.s1,by show 0≤S.seq+1;omega,Int.le_refl _,by show(0:Int)≤17;decide,fun _=>by show(0:Int)≤16;decide⟩
theorem CliM.Ok.call(ok:S.Ok)(o:OpM)(cl d now:Int):(S.call o cl d now).1.Ok:=by
 have ht:=tickN_r now
 unfold CliM.call
 split
 ·exact ok
 split
 ·exact(ok.begun o cl d).try_ (by show(0:Int)≤16;decide) rfl ht.1 ht.2
 ·exact(ok.begun o cl d).ask (by show(0:Int)≤16;decide) rfl ht.1 ht.2
end
section
variable {p:Nat} {S:CliM}
theorem ctick_spec(ok:S.Ok)(now:Int):Tri Tryz.prog 122 [.pointer (some ⟨p,0,none⟩),.int .i64 now] Fr w [cliH p S] (fun v L=>sentX (S.tick now).2 v L [cliH p (S.tick now).1]):=by
 have htk:=tickN_r now
 have s0:=ok.s0
 have s1:=ok.s1
 unfold CliM.tick
 generalize htn:tickN now=tn at htk
 refine TF 68 Tryz.func122 rfl ym tabOk rfl rfl ?_
 refine xlj ?_
 rintro y -
 show VC _ _ _ [pt p (cliC S y) cliT,pt y.q (bktC S.tok) bktT,slH memT 2 y.a S.ch.ms.length y.c (flat memC S.ch.ms),sloP S.out y.b] _
 have mid:Ent ⟨Tryz.prog,tab,tabOk,68,Fr,w⟩ [pt p (cliC S y) cliT,pt y.q (bktC S.tok) bktT,slH memT 2 y.a S.ch.ms.length y.c (flat memC S.ch.ms),sloP S.out y.b] [cliH p S]:=(Imp.cli (K:=[]) y Imp.refl).ent
 refine xjp ?_
 refine xlp ?_
 refine zox ?_
 refine xlq ?_
 rw[htn]
 refine xdf ?_
 refine CE rfl (fun k2=>?_) (fun k2=>?_)
 ·rw[if_pos k2]
  have ho:=ok.out (by rw[k2];decide)
  refine xjp ?_
  refine CD (ts 0 11 .nil) ym yr ?_
  refine xeh ?_
  refine xei ?_
  refine xeh ?_
  refine CP (p:=S.timeout≤tn-S.since) rfl (fun h=>?_) (fun h=>CK ?_)
  ·rw[if_pos h]
   refine xjp ?_
   refine xlo ?_
   refine VO.ent (L':=[cliH p { S with unsure:=true }]) (Imp.cli (S:={ S with unsure:=true }) (K:=[]) y Imp.refl).ent ?_
   refine xjp ?_
   refine VG (VK (Lc:=[cliH p { S with unsure:=true }]) (Lr:=[]) (fun Fr w hF hw _=>cgoOn_spec Fr w ok.unsure ho 0 tn htk.1 htk.2) rfl rfl ?_)
   rintro _ _ ⟨X,sa,sc,hX,rfl,rfl⟩
   refine xjp ?_
   exact xls
  ·rw[if_neg h]
   refine xjp ?_
   exact xlt
 rw[if_neg k2]
 refine xjp ?_
 refine CE rfl (fun k1=>?_) (fun k1=>?_)
 ·rw[if_pos k1]
  have ho:=ok.out (by rw[k1];decide)
  refine xjp ?_
  refine CD (ts 0 11 .nil) ym yr ?_
  refine xeh ?_
  refine xei ?_
  refine xeh ?_
  refine CP (p:=tn-S.since<S.timeout) rfl (fun h=>CX ?_) (fun h=>CK ?_)
  ·rw[if_pos h]
   refine xjp ?_
   exact xlt
  rw[if_neg h]
  refine xdf ?_
  refine CP (p:=S.deadline<tn) rfl (fun h2=>?_) (fun h2=>CK ?_)
  ·rw[if_pos h2]
   refine CN mid ?_
   refine xjp ?_
   refine VG (VK (Lc:=[cliH p S]) (Lr:=[]) (fun Fr w hF hw _=>cgive_spec Fr w ho 2) rfl rfl ?_)
   rintro _ _ ⟨X,sa,sc,hX,rfl,rfl⟩
   refine xjp ?_
   exact xls
  ·rw[if_neg h2]
   refine CN mid ?_
   refine xjp ?_
   refine xlu ?_
   rintro _ _ ⟨X,sa,sc,hX,rfl,rfl⟩
   refine xjp ?_
   exact xls
 rw[if_neg k1]
 refine xjp ?_
 refine CE rfl (fun k3=>?_) (fun k3=>CK ?_)
 ·rw[if_pos k3]
  refine xdf ?_
  refine CP (p:=S.until_≤tn) rfl (fun h=>?_) (fun h=>CK ?_)
  ·rw[if_pos h]
   refine CN mid ?_
   refine xjp ?_
   refine xlu ?_
   rintro _ _ ⟨X,sa,sc,hX,rfl,rfl⟩
   refine xjp ?_
   exact xls
  ·rw[if_neg h]
   refine xjp ?_
   exact xlt
 ·rw[if_neg k3]
  refine xjp ?_
  exact xlt
end
end Cl
namespace Cl
open Go Vg T Api Ch Rep Conf Sched
attribute [local irreducible] VO VC VA
section
variable {p:Nat} {S:CliM}
def cliC0(S:CliM):List Value:=(cliC S ⟨0,0,none,0⟩).set 4 (.pointer none)
theorem call_bad{o:OpM}{cl d now e:Int}(h:S.callE o cl d=e)(he:e≠0):(S.call o cl d now).1=S∧(S.call o cl d now).2=[]:=by
 unfold CliM.call;rw[if_pos (by rw[h];exact he)];exact⟨rfl,rfl⟩
theorem ccall_spec(ok:S.Ok)(hq:S.seq≤1000000000)(o:OpM)(cl d now:Int):Tri Tryz.prog 108 [.pointer (some ⟨p,0,none⟩),.agg o.cells.toArray,.int .i64 cl,.int .i64 d,.int .i64 now] Fr w [cliH p S]
  (fun v L=>sentE (S.call o cl d now).2 (S.callE o cl d) v L [cliH p (S.call o cl d now).1]):=by
 have htk:=tickN_r now
 have q0:=ok.q0
 refine TF 78 Tryz.func108 rfl ym tabOk rfl rfl ?_
 refine xlj ?_
 rintro y -
 show VC _ _ _ [pt p (cliC S y) cliT,pt y.q (bktC S.tok) bktT,slH memT 2 y.a S.ch.ms.length y.c (flat memC S.ch.ms),sloP S.out y.b] _
 refine CS (CG (VG (VB (vs:=o.cells) rfl fun ob=>VO.ent (L':=[pt p (cliC S y) cliT,pt y.q (bktC S.tok) bktT,slH memT 2 y.a S.ch.ms.length y.c (flat memC S.ch.ms),sloP S.out y.b,pt ob o.cells 35]) (pkZ [1,1,1,1,0]).ent ?_)))
 refine xjp ?_
 refine xlp ?_
 refine xjp ?_
 refine xdg ?_
 refine xjp ?_
 refine VG (VV (fun Fr w hF hw hS=>cbusy_spec Fr w ok (hS.blk 0 rfl)) rfl ?_)
 refine xjp ?_
 refine CC rfl (fun hb=>?_) (fun hb=>?_)
 ·have he:S.callE o cl d=63:=by unfold CliM.callE;rw[if_pos (by simpa using hb)]
  refine xjp ?_
  exact CR (Ret.tmp2 10 11 rfl rfl rfl (cli_none (y:=y) (R:=[_])).ent ybx)
 have hd0:S.doing=0:=by simpa using hb
 have hcE:S.callE o cl d=if opCheck o≠0∨cl<0∨S.cls≤cl∨d<0∨1099511627776<d then 2 else 0:=by unfold CliM.callE;rw[if_neg (fun h=>h hd0)]
 refine CS (VC.meetS (σ:=Bool) (fun b=>[(0,pV p),(2,.int .i64 cl),(3,.int .i64 d),(4,.int .i64 now),(6,pV ob),(19,.bool b)]) (fun _=>[pt p (cliC S y) cliT,pt y.q (bktC S.tok) bktT,slH memT 2 y.a S.ch.ms.length y.c (flat memC S.ch.ms),sloP S.out y.b,pt ob o.cells 35]) (fun b=>b=true↔(opCheck o≠0∨cl<0∨S.cls≤cl∨d<0∨1099511627776<d)) ?_ ?_)
 ·refine xjp ?_
  refine VG (VL 4 o.cells rfl rfl rfl rfl ?_)
  refine VG (VV (fun Fr w hF hw hS=>Api.check_spec Fr w o) rfl ?_)
  refine xjp ?_
  refine VC.condNE rfl (fun k1=>CK ?_) (fun k1=>?_)
  ·exact⟨true,by simp[k1],SC rfl (SC rfl (SC rfl (SC rfl (SC rfl (Sub.bl rfl (by rw[bne_iff_ne];exact k1) (SN _)))))),ER⟩
  refine xjp ?_
  refine CP (p:=cl<0) rfl (fun k2=>CK ?_) (fun k2=>?_)
  ·exact⟨true,by simp[k2],SC rfl (SC rfl (SC rfl (SC rfl (SC rfl (Sub.bl rfl (DT k2) (SN _)))))),ER⟩
  refine xdf ?_
  refine CP (p:=S.cls≤cl) rfl (fun k3=>CK ?_) (fun k3=>?_)
  ·exact⟨true,by simp[k3],SC rfl (SC rfl (SC rfl (SC rfl (SC rfl (Sub.bl rfl (DT k3) (SN _)))))),ER⟩
  refine xjp ?_
  refine CP (p:=d<0) rfl (fun k4=>CK ?_) (fun k4=>?_)
  ·exact⟨true,by simp[k4],SC rfl (SC rfl (SC rfl (SC rfl (SC rfl (Sub.bl rfl (DT k4) (SN _)))))),ER⟩
  refine xjp ?_
  exact⟨decide (1099511627776<d),by simp[k1,k2,k3,k4],SC rfl (SC rfl (SC rfl (SC rfl (SC rfl (Sub.bl rfl rfl (SN _)))))),ER⟩
 rintro b hb2
 refine xjp ?_
 refine CC rfl (fun k=>?_) (fun k=>CK ?_)
 ·have he:S.callE o cl d=2:=by rw[hcE,if_pos (hb2.1 k)]
  refine xjp ?_
  exact CR (Ret.tmp2 10 11 rfl rfl rfl (cli_none (y:=y) (R:=[_])).ent ybx)
 have he:S.callE o cl d=0:=by rw[hcE,if_neg (fun h=>by rw[hb2.2 h] at k;cases k)]
 rw[he]
 refine xjp ?_
 refine xlq ?_
 refine xjp ?_
 generalize htn:tickN now=tn at htk
 refine VG (VK (Lc:=[]) (fun Fr w hF hw _=>snew_spec Fr w) rfl rfl ?_)
 rintro _ _ ⟨sb,rfl,rfl⟩
 refine VO.ent (L':=[pt p (cliC S y) cliT,pt y.q (bktC S.tok) bktT,slH memT 2 y.a S.ch.ms.length y.c (flat memC S.ch.ms),pt sb (sloM none) sloT,pt ob o.cells 35]) (pkZ [1,1,1,0,1]).ent ?_
 refine xjp ?_
 refine VG (VO.st 0 (cs':=cliC { S with out:=some none } { y with b:=sb }) rfl rfl rfl rfl (by show 8<21;omega) rfl rfl ?_)
 refine xdf ?_
 refine VG (VP rfl rfl ybb ybb ?_)
 refine xjp ?_
 refine VG (VO.st 0 (cs':=cliC { S with out:=some none,seq:=S.seq+1 } { y with b:=sb }) rfl rfl rfl rfl (by show 13<21;omega) rfl rfl ?_)
 refine xjp ?_
 refine VG (VO.st 0 (cs':=cliC { S with out:=some none,seq:=S.seq+1,tries:=0 } { y with b:=sb }) rfl rfl rfl rfl (by show 14<21;omega) rfl rfl ?_)
 refine VG (VO.st 0 (cs':=cliC { S with out:=some none,seq:=S.seq+1,tries:=0,unsure:=false } { y with b:=sb }) rfl rfl rfl rfl ybv rfl rfl ?_)
 refine xjp ?_
 refine VG (VL 4 o.cells rfl rfl rfl rfl ?_)
 refine xjp ?_
 refine VG (VT (vs:=o.cells) (cs':=cliC { S with out:=some none,seq:=S.seq+1,tries:=0,unsure:=false,op:=o } { y with b:=sb }) 0 rfl rfl rfl rfl (by show 17+4≤21;omega) rfl rfl rfl ?_)
 refine VG (VO.st 0 (cs':=cliC { S with out:=some none,seq:=S.seq+1,tries:=0,unsure:=false,op:=o,cl:=cl } { y with b:=sb }) rfl rfl rfl rfl (by show 15<21;omega) rfl rfl ?_)
 refine VG (VO.st 0 (cs':=cliC (S.begun o cl d) { y with b:=sb }) rfl rfl rfl rfl (by show 16<21;omega) rfl rfl ?_)
 refine xdf ?_
 have okb:=ok.begun o cl d
 refine CP (p:=0<S.ch.epoch) rfl (fun hp=>?_) (fun hp=>CK ?_)
 ·have ec:S.call o cl d now=(S.begun o cl d).try_ tn:=by unfold CliM.call;rw[if_neg (by rw[he];decide),if_pos hp,htn]
  rw[ec]
  refine xlv ?_
  refine xjp ?_
  refine VG (VK (Lc:=[cliH p (S.begun o cl d)]) (Lr:=[]) (fun Fr w hF hw _=>ctry_spec Fr w okb tn) rfl rfl ?_)
  rintro _ _ ⟨X,sa,sc,hX,rfl,rfl⟩
  refine xjp ?_
  exact xlw
 ·have ec:S.call o cl d now=(S.begun o cl d).ask tn:=by unfold CliM.call;rw[if_neg (by rw[he];decide),if_neg hp,htn]
  rw[ec]
  refine xlv ?_
  refine xjp ?_
  refine VG (VK (Lc:=[cliH p (S.begun o cl d)]) (Lr:=[]) (fun Fr w hF hw _=>cask_spec Fr w okb tn) rfl rfl ?_)
  rintro _ _ ⟨X,sa,sc,hX,rfl,rfl⟩
  refine xjp ?_
  exact xlw
end
theorem bnew_spec{c r:Int}(h0:0≤c)(h1:c≤16)(h2:1≤r)(h3:r≤1099511627776):Tri Tryz.prog 71 [.int .i64 c,.int .i64 r] Fr w [] (fun v L=>∃p,v=.tuple #[.pointer (some ⟨p,0,none⟩),.int .i64 0]∧L=[pt p (bktC ⟨c,r,c,0,0⟩) bktT]):=by
 refine TF 25 Tryz.func71 rfl ym tabOk rfl rfl ?_
 refine xjp ?_
 refine VG (VY 8 false rfl (DF yd) ?_)
 refine xjq ?_
 refine VG (VY 12 false rfl (DF yd) ?_)
 refine xjq ?_
 refine VG (VY 16 false rfl (DF yd) ?_)
 refine xjq ?_
 refine CP (p:=1099511627776<r) rfl (fun h=>absurd h yd) (fun h=>CK ?_)
 refine xjq ?_
 refine VG (VI (LB (pv:=[(0,.int .i64 c),(1,.int .i64 r),(2,.int .i64 c)]) (bktC ⟨c,r,c,0,0⟩) rfl rfl rfl ym rfl) ?_)
 refine VG (VB (vs:=bktC ⟨c,r,c,0,0⟩) rfl fun q=>?_)
 refine xjp ?_
 exact CR (Ret.tmp2 4 5 rfl rfl rfl ER ⟨q,rfl,rfl⟩)
def newClE(c:ConfM)(id:Int):Int:=if c=fitM c∧0≤id∧id<c.clients then 0 else 2
theorem newCl_ok{c:ConfM}(h:c=fitM c)(id:Int):(newCl c id).Ok:=by
 obtain⟨_,b2,b3,b4,_,b6⟩:=conf_bounds2 h
 exact⟨by show(1:Int)≤c.qs.length;omega,by show(c.qs.length:Int)≤4;omega,by show 0≤c.timeout;omega,by show c.timeout≤1000;omega,b3.1,b3.2,⟨b3.1,b3.2,b4.1,b4.2,b3.1,Int.le_refl _,Int.le_refl _,by show(0:Int)≤_;decide,by show(0:Int)≤0;decide,by show(0:Int)≤0;decide⟩,by show 0≤6;decide,fun k=>absurd rfl k,by show(0:Int)≤0;decide,by show(0:Int)≤_;decide,by show(0:Int)≤0;decide,by show(0:Int)≤0;decide,by show(0:Int)≤17;decide,fun _=>by show(0:Int)≤16;decide⟩
theorem cnew_spec(c:ConfM){qa:Option Addr}{qc:Nat}(hq:IntsIn Fr w qa c.qs)(hqa:AdOk qa)(hqc:c.qs.length≤qc)(id:Int):
  Tri Tryz.prog 39 [.agg (c.cells qa qc).toArray,.int .i64 id] Fr w [] (fun v L=>if newClE c id=0 then ∃p,v=.tuple #[.pointer (some ⟨p,0,none⟩),.int .i64 0]∧L=[cliH p (newCl c id)] else v=.tuple #[.pointer none,.int .i64 2]∧L=[]):=by
 refine TF 42 Tryz.func39 rfl ym tabOk rfl rfl ?_
 refine CS (CG (VG (VB (vs:=c.cells qa qc) rfl fun b2=>VG (VN ?_))))
 refine xjp ?_
 refine xlg ?_
 refine VG (VV (fun Fr w hF hs _=>Conf.check_spec Fr w c qa qc (ints_of hq hF hs) hqa hqc) rfl ?_)
 refine xjq ?_
 by_cases hf:c=fitM c
 rotate_left
 ·have hE:newClE c id≠0:=by unfold newClE;rw[if_neg (fun h=>hf h.1)];decide
  refine VG (VY 10 true rfl (by unfold checkM;rw[if_neg hf];rfl) ?_)
  refine xjq ?_
  refine xdo ?_
  refine zos ?_
  exact xlx
 refine VG (VY 10 false rfl (by unfold checkM;rw[if_pos hf];rfl) ?_)
 refine xjq ?_
 by_cases h0:id<0
 ·have hE:newClE c id≠0:=by unfold newClE;rw[if_neg (fun h=>by omega)];decide
  refine VG (VY 14 true rfl (DT h0) ?_)
  refine zos ?_
  exact xlx
 refine VG (VY 14 false rfl (DF h0) ?_)
 refine xdn ?_
 refine CP (p:=c.clients≤id) rfl (fun h1=>?_) (fun h1=>CK ?_)
 ·have hE:newClE c id≠0:=by unfold newClE;rw[if_neg (fun h=>by omega)];decide
  refine xjq ?_
  exact xlx
 have hE:newClE c id=0:=by unfold newClE;rw[if_pos ⟨hf,by omega,by omega⟩]
 obtain⟨_,b2,b3,b4,_,b6⟩:=conf_bounds2 hf
 refine xdn ?_
 refine VG (VI (LB (pv:=[(0,.int .i64 id),(1,.int .i64 c.qs.length),(2,.int .i64 c.timeout),(3,.int .i64 c.budget)]) (cliC0 (newCl c id)) rfl rfl rfl ym rfl) ?_)
 refine VG (VB (vs:=cliC0 (newCl c id)) rfl fun p=>?_)
 refine xdx ?_
 refine VG (VK (Lc:=[]) (fun Fr w hF hs _=>bnew_spec Fr w b3.1 b3.2 b4.1 b4.2) rfl rfl ?_)
 rintro _ _ ⟨q,rfl,rfl⟩
 refine xdx ?_
 refine VG (VO.st 1 (cs':=cliC (newCl c id) ⟨q,0,none,0⟩) rfl rfl rfl rfl (by show 4<21;omega) rfl rfl ?_)
 refine xdx ?_
 exact CR (Ret.tmp2 4 5 rfl rfl rfl (Imp.cli (S:=newCl c id) (K:=[]) ⟨q,0,none,0⟩ (IP 1 rfl (IP 0 rfl (Imp.slNil (Imp.pure trivial Imp.nil))))).ent (by rw[if_pos hE];exact⟨p,rfl,rfl⟩))
end Cl
namespace Cl
open Go Vg T Api Ch Rep
attribute [local irreducible] VO VC VA
abbrev hisT:TypeId:=126
abbrev rcdT:TypeId:=228
def recC(r:RecM):List Value:=[.int .i64 r.client,.int .i64 r.seq]++r.op.cells ++ [.int .i64 r.from_,.int .i64 r.to]++outC r.out
theorem recC_len(r:RecM):(recC r).length=14:=rfl
def hisC(h:HisM)(a:Option Addr)(c:Nat):List Value:=[.bool true,.slice a h.recs.length c,.int .i64 h.events]++h.last.map (Value.int .i64)
def hisL(p:Nat)(h:HisM)(a:Option Addr)(c:Nat):List HP:=[pt p (hisC h a c) hisT,slH rcdT 14 a h.recs.length c (flat recC h.recs)]
def hisH(p:Nat)(h:HisM):HP:=hex fun y:Option Addr×Nat=>hsep (hisL p h y.1 y.2)
theorem HOpn.his(p:Nat)(h:HisM):HOpn (ι:=Option Addr×Nat) (hisH p h) (fun _=>True) (fun y=>hisL p h y.1 y.2):=fun w ids ⟨x,h⟩ hn=>⟨x,trivial,ids,h,hn,fun _ h=>h⟩
theorem Imp.his{p:Nat}{S:HisM}{L K:List HP}(y:Option Addr×Nat)(h:Imp L (hisL p S y.1 y.2++K)):Imp L (hisH p S::K):=Imp.ex (f:=fun y:Option Addr×Nat=>hsep (hisL p S y.1 y.2)) y (Imp.sep h)
structure HisM.Ok(h:HisM):Prop where
 rl:h.recs.length≤1000000
 e0:0≤h.events
 e1:h.events≤10000000
 ll:h.last.length=6
 lr:∀x∈h.last,0≤x∧x≤h.recs.length
def HisM.lastN(h:HisM)(c:Int):Int:=(h.last[c.toNat]?).getD 0
section
variable {p:Nat} {S:HisM} {a:Option Addr} {cap:Nat}
theorem his_len(ok:S.Ok):(hisC S a cap).length=9:=by show(_::_::_::S.last.map _).length=9;simp[ok.ll]
theorem his_at{k:Nat}{x:Int}(h:S.last[k]?=some x):(hisC S a cap)[3+k]?=some (.int .i64 x):=by
 show(_::_::_::S.last.map (Value.int .i64))[3+k]?=_
 rw[show 3+k=k+1+1+1 from by omega]
 simp only[List.getElem?_cons_succ]
 rw[List.getElem?_map,h];rfl
theorem his_set{k:Nat}(x:Int):(hisC S a cap).set (3+k) (.int .i64 x)=hisC { S with last:=S.last.set k x } a cap:=by
 show(_::_::_::S.last.map (Value.int .i64)).set (3+k) _=_::_::_::(S.last.set k x).map (Value.int .i64)
 rw[show 3+k=k+1+1+1 from by omega]
 simp only[List.set_cons_succ]
 rw[List.map_set]
theorem HisM.Ok.at(ok:S.Ok){c:Int}(h:0≤c∧c<6):∃k:Nat,c=k∧k<6∧S.last[k]?=some (S.lastN c)∧0≤S.lastN c∧S.lastN c≤S.recs.length:=by
 obtain⟨k,rfl⟩:∃k:Nat,c=k:=⟨c.toNat,by omega⟩
 have hk:k<S.last.length:=by rw[ok.ll];omega
 have e:S.last[k]?=some (S.lastN (k:Int)):=by
  unfold HisM.lastN
  rw[Int.toNat_natCast,GE hk];rfl
 exact⟨k,rfl,by omega,e,ok.lr _ (ME e)⟩
theorem lastOf_none{c:Int}(h:c<0∨6≤c∨S.lastN c=0):S.lastOf c=none:=by unfold HisM.lastOf;exact if_pos h
theorem lastOf_some(ok:S.Ok){c:Int}(h0:0≤c)(h1:c<6)(h2:S.lastN c≠0):∃i r,S.lastOf c=some (i,r)∧S.recs[i]?=some r∧S.lastN c=(i:Int)+1∧i<S.recs.length:=by
 obtain⟨k,_,_,_,g1,g2⟩:=ok.at ⟨h0,h1⟩
 have hi:(S.lastN c).toNat-1<S.recs.length:=by omega
 refine⟨(S.lastN c).toNat-1,S.recs[(S.lastN c).toNat-1],?_,GE hi,by omega,hi⟩
 unfold HisM.lastOf
 rw[if_neg (fun h=>by
  rcases h with h | h | h
  ·omega
  ·omega
  ·exact h2 h)]
 show(S.recs[(S.lastN c).toNat-1]?).map _=_
 rw[GE hi];rfl
theorem lastOf_cases(ok:S.Ok)(c:Int):(S.lastOf c=none∧(c<0∨6≤c∨S.lastN c=0))∨∃i r,S.lastOf c=some (i,r)∧S.recs[i]?=some r∧S.lastN c=(i:Int)+1∧i<S.recs.length:=by
 by_cases h:c<0∨6≤c∨S.lastN c=0
 ·exact .inl ⟨lastOf_none h,h⟩
 ·exact .inr (lastOf_some ok yd yd yd)
def lastV(S:HisM)(a:Option Addr)(c:Int):Value:=match S.lastOf c with
 | none=>.pointer none
 | some (i,_)=>.pointer (a.map fun x=>⟨x.block,x.off+i*14,none⟩)
theorem hnew_spec:Tri Tryz.prog 36 [] Fr w [] (fun v L=>∃p,v=.pointer (some ⟨p,0,none⟩)∧L=[hisH p newH]):=by
 refine TF 3 Tryz.func36 rfl ym tabOk rfl rfl ?_
 refine xjp ?_
 refine VG (VI (LB (pv:=[(0,.bool true)]) (hisC newH none 0) rfl rfl rfl ym rfl) ?_)
 refine VG (VB (vs:=hisC newH none 0) rfl fun q=>?_)
 refine xjp ?_
 exact CR (Ret.tmp 0 rfl rfl (Imp.his (S:=newH) (K:=[]) (none,0) (IP 0 rfl (Imp.slNil Imp.nil))).ent ⟨q,rfl,rfl⟩)
theorem hnone_spec(h:Blk Fr w p (hisC S a cap)):Tri Tryz.prog 136 [.pointer (some ⟨p,0,none⟩)] Fr w [] (fun v L=>v=.bool false∧L=[]):=by
 refine TF 12 Tryz.func136 rfl ym tabOk rfl rfl ?_
 refine xjq ?_
 refine xez ?_
 refine xjr ?_
 exact xfa
theorem lastOf_spec(ok:S.Ok)(h:Blk Fr w p (hisC S a cap))(hr:RwIn recC 14 Fr w a S.recs)(c:Int):Tri Tryz.prog 137 [.pointer (some ⟨p,0,none⟩),.int .i64 c] Fr w [] (fun v L=>v=lastV S a c∧L=[]):=by
 have hrl:=ok.rl
 refine TF 32 Tryz.func137 rfl ym tabOk rfl rfl ?_
 refine xjq ?_
 by_cases h0:c<0
 ·refine VG (VY 7 true rfl (DT h0) ?_)
  refine xjq ?_
  refine VG (VY 11 true rfl rfl ?_)
  refine zos ?_
  exact CR (Ret.tmp 4 rfl rfl ER ⟨by rw[lastV,lastOf_none (.inl h0)],rfl⟩)
 refine VG (VY 7 false rfl (DF h0) ?_)
 refine xjq ?_
 by_cases h6:6≤c
 ·refine VG (VY 11 true rfl (DT h6) ?_)
  refine zos ?_
  exact CR (Ret.tmp 4 rfl rfl ER ⟨by rw[lastV,lastOf_none (.inr (.inl h6))],rfl⟩)
 refine VG (VY 11 false rfl (DF h6) ?_)
 obtain⟨k,rfl,hk,hx,g1,g2⟩:=ok.at (c:=c) ⟨by omega,by omega⟩
 have hx':(hisC S a cap)[0+3+k*1]?=some (.int .i64 (S.lastN k)):=by rw[show 0+3+k*1=3+k from by omega];exact his_at hx
 refine xjq ?_
 refine VG (VI (light_idxA k rfl rfl rfl rfl rfl rfl hk) ?_)
 refine VG (VO.load rfl rfl (RdL.blk h hx') ?_)
 refine xjq ?_
 refine CE rfl (fun hz=>?_) (fun hz=>CK ?_)
 ·refine xjq ?_
  exact CR (Ret.tmp 4 rfl rfl ER ⟨by rw[lastV,lastOf_none (.inr (.inr hz))],rfl⟩)
 obtain⟨i,r,e1,e2,e3,e4⟩:=lastOf_some ok yd yd hz
 obtain⟨rb,ro,rfl,_,_⟩:=hr.at_ (fun e=>by rw[e] at e4;exact absurd e4 yf)
 refine xjp ?_
 refine CD (ts 0 13 .nil) ym yr ?_
 refine xen ?_
 refine AG (AI rfl (light_idxA k rfl rfl rfl rfl rfl rfl hk) ?_)
 refine AG (VA.load rfl rfl rfl (RdL.blk h hx') ?_)
 refine xei ?_
 refine AG (AI rfl (light_idx i rfl rfl rfl rfl rfl yd e4) ?_)
 refine xjs ?_
 exact CR (Ret.tmp 4 rfl rfl ER ⟨by rw[lastV,e1];rfl,rfl⟩)
end
end Cl
namespace Cl
open Go Vg T Api Ch Rep
attribute [local irreducible] VO VC VA
section
variable {p:Nat} {S:HisM}
def begR(S:HisM)(c seq:Int)(o:OpM):RecM:=⟨c,seq,o,S.events,-1,outZ⟩
theorem HisM.callE_bad{c seq:Int}{o:OpM}(h:c<0∨6≤c∨seq<1∨opCheck o≠0):S.callE c seq o=2:=by unfold HisM.callE;exact if_pos h
theorem HisM.callE_none{c seq:Int}{o:OpM}(h:¬(c<0∨6≤c∨seq<1∨opCheck o≠0))(h2:S.lastOf c=none):S.callE c seq o=0:=by unfold HisM.callE;rw[if_neg h,h2]
theorem HisM.callE_some{c seq:Int}{o:OpM}{i:Nat}{r:RecM}(h:¬(c<0∨6≤c∨seq<1∨opCheck o≠0))(h2:S.lastOf c=some (i,r)):S.callE c seq o=if r.to<0 then 63 else if seq≤r.seq then 70 else 0:=by unfold HisM.callE;rw[if_neg h,h2]
theorem HisM.call_bad{c seq e:Int}{o:OpM}(h:S.callE c seq o=e)(he:e≠0):S.call c seq o=S:=by unfold HisM.call;rw[h,if_pos he]
theorem HisM.call_ok{c seq:Int}{o:OpM}(h:S.callE c seq o=0):S.call c seq o=⟨S.recs ++ [begR S c seq o],S.events+1,S.last.set c.toNat ((S.recs.length:Int)+1)⟩:=by unfold HisM.call;rw[h,if_neg yo];rfl
theorem HisM.Ok.call(ok:S.Ok)(h1:S.recs.length<1000000)(h2:S.events<10000000)(c seq:Int)(o:OpM):(S.call c seq o).Ok:=by
 unfold HisM.call
 split
 ·exact ok
 have:=ok.e0
 refine⟨by show(S.recs ++ [_]).length≤_;rw[List.length_append];simp;omega,by show 0≤S.events+1;omega,by show S.events+1≤_;omega,by show(S.last.set _ _).length=6;rw[List.length_set,ok.ll],fun x hx=>?_⟩
 show 0≤x∧x≤((S.recs ++ [_]).length:Int)
 rw[List.length_append]
 rcases List.mem_or_eq_of_mem_set hx with h | h
 ·have:=ok.lr x h;simp;omega
 ·rw[h];simp;omega
theorem hcall_spec(ok:S.Ok)(h2:S.events<10000000)(c seq:Int)(o:OpM):Tri Tryz.prog 109 [.pointer (some ⟨p,0,none⟩),.int .i64 c,.int .i64 seq,.agg o.cells.toArray] Fr w [hisH p S]
  (fun v L=>v=.int .i64 (S.callE c seq o)∧L=[hisH p (S.call c seq o)]):=by
 have hrl:=ok.rl
 have he0:=ok.e0
 refine TF 77 Tryz.func109 rfl ym tabOk rfl rfl ?_
 refine VC.opn 0 rfl (HOpn.his p S) ?_
 rintro⟨a,cap⟩ -
 show VC _ _ _ [pt p (hisC S a cap) hisT,slH rcdT 14 a S.recs.length cap (flat recC S.recs)] _
 refine CS (CG (VG (VB (vs:=o.cells) rfl fun ob=>VO.ent (L':=[pt p (hisC S a cap) hisT,slH rcdT 14 a S.recs.length cap (flat recC S.recs),pt ob o.cells 35]) (pkZ [1,1,0]).ent ?_)))
 have fin:∀a cap,Ent ⟨Tryz.prog,tab,tabOk,77,Fr,w⟩ [pt p (hisC S a cap) hisT,slH rcdT 14 a S.recs.length cap (flat recC S.recs),pt ob o.cells 35] [hisH p S]:=fun a cap=>(Imp.his (K:=[]) (a,cap) (pkZ [0,0])).ent
 refine xjp ?_
 refine VG (VV (fun Fr w hF hw hS=>hnone_spec Fr w (hS.blk 0 rfl)) rfl ?_)
 refine zot ?_
 refine xjq ?_
 by_cases k0:c<0
 ·have hE:=HisM.callE_bad (S:=S) (c:=c) (seq:=seq) (o:=o) (.inl k0)
  refine VG (VY 14 true rfl (DT k0) ?_)
  refine xjq ?_
  refine VG (VY 18 true rfl rfl ?_)
  refine xjq ?_
  refine VG (VY 22 true rfl rfl ?_)
  refine zos ?_
  exact xly
 refine VG (VY 14 false rfl (DF k0) ?_)
 refine xjq ?_
 by_cases k1:6≤c
 ·have hE:=HisM.callE_bad (S:=S) (c:=c) (seq:=seq) (o:=o) (.inr (.inl k1))
  refine VG (VY 18 true rfl (DT k1) ?_)
  refine xjq ?_
  refine VG (VY 22 true rfl rfl ?_)
  refine zos ?_
  exact xly
 refine VG (VY 18 false rfl (DF k1) ?_)
 refine xjq ?_
 by_cases k2:seq<1
 ·have hE:=HisM.callE_bad (S:=S) (c:=c) (seq:=seq) (o:=o) (.inr (.inr (.inl k2)))
  refine VG (VY 22 true rfl (DT k2) ?_)
  refine zos ?_
  exact xly
 refine VG (VY 22 false rfl (DF k2) ?_)
 refine xjq ?_
 refine VG (VL 2 o.cells rfl rfl rfl rfl ?_)
 refine VG (VV (fun Fr w hF hw hS=>Api.check_spec Fr w o) rfl ?_)
 refine xjq ?_
 refine VC.condNE rfl (fun k3=>?_) (fun k3=>CK ?_)
 ·have hE:=HisM.callE_bad (S:=S) (c:=c) (seq:=seq) (o:=o) (.inr (.inr (.inr k3)))
  refine xjq ?_
  exact xly
 have hn:¬(c<0∨6≤c∨seq<1∨opCheck o≠0):=by
  rintro(h | h | h | h)
  ·exact k0 h
  ·exact k1 h
  ·exact k2 h
  ·exact h k3
 refine CS (VC.meetS (σ:=Option Addr×Nat) (fun _=>[(0,pV p),(1,.int .i64 c),(2,.int .i64 seq),(7,pV ob)]) (fun y=>[pt p (hisC S y.1 y.2) hisT,slH rcdT 14 y.1 S.recs.length y.2 (flat recC S.recs),pt ob o.cells 35]) (fun _=>S.callE c seq o=0) ?_ ?_)
 ·refine xjp ?_
  refine xlz ?_
  rcases lastOf_cases ok c with ⟨e1,_⟩ | ⟨i,r,e1,e2,e3,e4⟩
  ·rw[show lastV S a c=.pointer none by rw[lastV,e1]]
   refine zot ?_
   exact⟨(a,cap),HisM.callE_none hn e1,sbZ,ER⟩
  have hE:=HisM.callE_some hn e1
  refine VO.opn 1 rfl (HOpn.sl _ _ _ _ _ _) ?_
  rintro(_ | ⟨mb,rest⟩) ⟨x1,x2,x3⟩
  ·obtain⟨_,h0,_⟩:=x3
   omega
  obtain⟨rfl,x4⟩:=x3
  rw[show lastV S (some ⟨mb,0,none⟩) c=.pointer (some ⟨mb,0+i*14,none⟩) by rw[lastV,e1];rfl]
  show VO _ _ _ _ _ [pt mb (flat recC S.recs++rest) rcdT,pt p (hisC S (some ⟨mb,0,none⟩) cap) hisT,pt ob o.cells 35] _
  have back:Ent ⟨Tryz.prog,tab,tabOk,77,Fr,w⟩ [pt mb (flat recC S.recs++rest) rcdT,pt p (hisC S (some ⟨mb,0,none⟩) cap) hisT,pt ob o.cells 35] [pt p (hisC S (some ⟨mb,0,none⟩) cap) hisT,slH rcdT 14 (some ⟨mb,0,none⟩) S.recs.length cap (flat recC S.recs),pt ob o.cells 35]:=(IP 1 rfl (Imp.sl x1 x2 x4 Imp.refl)).ent
  have c7:(flat recC S.recs++rest)[0+i*14+7]?=some (.int .i64 r.to):=by rw[Nat.zero_add];exact flat_cell recC_len e2 rfl rest
  have c1:(flat recC S.recs++rest)[0+i*14+1]?=some (.int .i64 r.seq):=by rw[Nat.zero_add];exact flat_cell recC_len e2 rfl rest
  refine zqj ?_
  refine VG (VO.load rfl rfl (RdL.one 0 rfl c7) ?_)
  refine xjp ?_
  refine CP (p:=r.to<0) rfl (fun j=>?_) (fun j=>CK ?_)
  ·have hE2:S.callE c seq o=63:=by rw[hE,if_pos j]
   refine CN back ?_
   refine xjp ?_
   exact xma
  refine xjp ?_
  refine VG (VO.load rfl rfl (RdL.one 0 rfl c1) ?_)
  refine xjp ?_
  refine CP (p:=seq≤r.seq) rfl (fun j2=>?_) (fun j2=>CK ?_)
  ·have hE2:S.callE c seq o=70:=by rw[hE,if_neg j,if_pos j2]
   refine CN back ?_
   refine xjp ?_
   exact xma
  exact⟨(some ⟨mb,0,none⟩,cap),by rw[hE,if_neg j,if_neg j2],sbZ,back⟩
 rintro⟨a,cap⟩ hE
 dsimp only
 have hc:=HisM.call_ok hE
 obtain⟨k,rfl,hk,hx,g1,g2⟩:=ok.at (c:=c) ⟨by omega,by omega⟩
 refine CS (CD (ts 0 13 (.only 13 (.only 14 (ts 15 2 (.only 17 .nil))))) ym yr ?_)
 refine xgc ?_
 refine AG (VA.ldA 2 o.cells rfl rfl rfl rfl rfl ?_)
 refine xgc ?_
 refine AG (AI rfl (LB (pv:=[(0,.int .i64 k),(1,.int .i64 seq),(2,.agg o.cells.toArray),(3,.int .i64 S.events),(4,.int .i64 (-1))]) (recC (begR S k seq o)) rfl rfl rfl ym rfl) ?_)
 refine AG (AO (OpT.buildSlice (n:=1) (pv:=[(0,.agg (recC (begR S k seq o)).toArray)]) (cells:=recC (begR S k seq o)) rfl rfl rfl rfl yo (fill_one rfl rfl rfl)) rfl ?_ ?_)
 ·rintro _ _ ⟨nb,rfl,rfl⟩
  exact yu
 rintro _ _ ⟨nb,rfl,rfl⟩
 refine AG (AO (OpT.append (m:=1) (news:=recC (begR S k seq o)) 2 rfl rfl rfl rfl rfl rfl rfl (RdRow.pt 0 rfl rfl rfl) rfl (by show(S.recs.length+1)*136≤_;omega) yd) rfl ?_ ?_)
 ·rintro _ _ ⟨a1,c1,rfl,hc1,rfl⟩
  exact yu
 rintro _ _ ⟨a1,c1,rfl,hc1,rfl⟩
 refine xfe ?_
 have e1:S.recs.length+1=(S.recs ++ [begR S k seq o]).length:=by rw[List.length_append];rfl
 refine AG (VA.st 2 (cs':=hisC { S with recs:=S.recs ++ [begR S k seq o] } a1 c1) rfl rfl rfl rfl rfl (by rw[his_len ok];decide) (by rw[e1];rfl) rfl yu ?_)
 refine xjs ?_
 generalize hS1:({ S with recs:=S.recs ++ [begR S k seq o] }:HisM)=S1
 have l1:S1.recs=S.recs ++ [begR S k seq o]:=by rw[←hS1]
 have l2:S1.last=S.last:=by rw[←hS1]
 have l3:S1.events=S.events:=by rw[←hS1]
 refine CN (L':=[pt p (hisC S1 a1 c1) hisT,slH rcdT 14 a1 S1.recs.length c1 (flat recC S1.recs),pt ob o.cells 35]) ?_ ?_
 ·rw[l1,flat_append,flat_1,←e1]
  exact(pkZ [2,0,1]).ent
 refine xff ?_
 refine xgc ?_
 refine AG (AI rfl (light_idxA k rfl rfl rfl rfl rfl rfl hk) ?_)
 refine AG (VA.st 0 (cs':=hisC { S1 with last:=S1.last.set k S1.recs.length } a1 c1) rfl rfl rfl rfl rfl (by show 0+3+k*1<(_::_::_::S1.last.map _).length;rw[l2];simp[ok.ll];omega) (by show(hisC S1 a1 c1).set (0+3+k*1) _=_;rw[show 0+3+k*1=3+k from by omega];exact his_set _) rfl yu ?_)
 refine xjs ?_
 refine CN (L':=[pt p (hisC { S1 with last:=S1.last.set k S1.recs.length } a1 c1) hisT,slH rcdT 14 a1 S1.recs.length c1 (flat recC S1.recs)]) (pkZ [0,0]).ent ?_
 refine xdf ?_
 refine VG (VP rfl rfl ybb ybb ?_)
 refine xjp ?_
 refine VG (VO.st 0 (cs':=hisC { S1 with last:=S1.last.set k S1.recs.length,events:=S1.events+1 } a1 c1) rfl rfl rfl rfl (by show 2<(_::_::_::(S1.last.set k _).map _).length;simp) rfl rfl ?_)
 refine xjp ?_
 refine CR (Ret.tmp 8 rfl rfl (L':=[hisH p { S1 with last:=S1.last.set k S1.recs.length,events:=S1.events+1 }]) (Imp.his (S:={ S1 with last:=S1.last.set k S1.recs.length,events:=S1.events+1 }) (K:=[]) (a1,c1) Imp.refl).ent ⟨by rw[hE],?_⟩)
 rw[hc,l1,l2,l3,←e1,Int.toNat_natCast]
 rfl
end
end Cl
namespace Cl
open Go Vg T Api Ch Rep
attribute [local irreducible] VO VC VA
theorem wr_in{B R vs:List Value}{o j n:Nat}(hR:(B.drop o).take n=R)(hn:R.length=n)(hj:j+vs.length≤n)(ho:o≤B.length):wrC B (o+j) vs=wrC B o (wrC R j vs):=by
 have hB:B.drop o=R++B.drop (o+n):=by rw[←hR,←List.drop_drop,List.take_append_drop]
 have h1:(wrC R j vs).length=n:=by unfold wrC;simp;omega
 have h2:B.take (o+j)=B.take o++R.take j:=by
  rw[List.take_add,hB,List.take_append_of_le_length yd]
 have h3:B.drop (o+j+vs.length)=R.drop (j+vs.length)++B.drop (o+n):=by
  rw[Nat.add_assoc,←List.drop_drop,hB,List.drop_append_of_le_length yd]
 unfold wrC at h1 ⊢
 rw[h1,h2,h3]
 simp
theorem flat_wr{α:Type}{c:α→List Value}{n:Nat}(h:∀a,(c a).length=n){i j:Nat}{l:List α}{a a':α}{vs:List Value}(ha:l[i]?=some a)(hj:j+vs.length≤n)(hc:wrC (c a) j vs=c a')(rest:List Value):wrC (flat c l++rest) (i*n+j) vs=flat c (l.set i a')++rest:=by
 have hi:i<l.length:=(List.getElem?_eq_some_iff.1 ha).1
 have hle:i*n≤l.length*n:=Nat.mul_le_mul_right n (Nat.le_of_lt hi)
 rw[←flat_set h a' rest hi,←hc]
 exact wr_in (flat_row h ha rest) (h a) hj (by rw[List.length_append,flat_len h];omega)
section
variable {p:Nat} {S:HisM}
def HisM.endE(h:HisM)(c seq:Int)(o:OutM):Int:=
 if o.kind≠1∧o.kind≠2∧o.kind≠3 then 2
 else match h.lastOf c with
  | none=>4
  | some (i,r)=>if r.seq≠seq∨0≤r.to then 4 else 0
def endR(S:HisM)(r:RecM)(o:OutM):RecM:={ r with to:=S.events,out:=o }
theorem HisM.end_bad{c seq:Int}{o:OutM}(h:o.kind≠1∧o.kind≠2∧o.kind≠3):S.end_ c seq o=S∧S.endE c seq o=2:=by unfold HisM.end_ HisM.endE;rw[if_pos h,if_pos h];exact⟨rfl,rfl⟩
theorem HisM.end_none{c seq:Int}{o:OutM}(h:¬(o.kind≠1∧o.kind≠2∧o.kind≠3))(h2:S.lastOf c=none):S.end_ c seq o=S∧S.endE c seq o=4:=by unfold HisM.end_ HisM.endE;rw[if_neg h,if_neg h,h2];exact⟨rfl,rfl⟩
theorem HisM.end_no{c seq:Int}{o:OutM}{i:Nat}{r:RecM}(h:¬(o.kind≠1∧o.kind≠2∧o.kind≠3))(h2:S.lastOf c=some (i,r))(h3:r.seq≠seq∨0≤r.to):S.end_ c seq o=S∧S.endE c seq o=4:=by
 unfold HisM.end_ HisM.endE;rw[if_neg h,if_neg h,h2];dsimp only;rw[if_pos h3,if_pos h3];exact⟨rfl,rfl⟩
theorem HisM.end_ok{c seq:Int}{o:OutM}{i:Nat}{r:RecM}(h:¬(o.kind≠1∧o.kind≠2∧o.kind≠3))(h2:S.lastOf c=some (i,r))(h3:¬(r.seq≠seq∨0≤r.to)):S.end_ c seq o={ S with recs:=S.recs.set i (endR S r o),events:=S.events+1 }∧S.endE c seq o=0:=by
 unfold HisM.end_ HisM.endE;rw[if_neg h,if_neg h,h2];dsimp only;rw[if_neg h3,if_neg h3];exact⟨rfl,rfl⟩
theorem HisM.Ok.end_(ok:S.Ok)(h2:S.events<10000000)(c seq:Int)(o:OutM):(S.end_ c seq o).Ok:=by
 have:=ok.e0
 unfold HisM.end_
 split
 ·exact ok
 split
 ·exact ok
 split
 ·exact ok
 refine⟨by show(S.recs.set _ _).length≤_;rw[List.length_set];exact ok.rl,by show 0≤S.events+1;omega,by show S.events+1≤_;omega,ok.ll,fun x hx=>?_⟩
 show 0≤x∧x≤((S.recs.set _ _).length:Int)
 rw[List.length_set]
 exact ok.lr x hx
theorem hend_spec(ok:S.Ok)(h2:S.events<10000000)(c seq:Int)(o:OutM):Tri Tryz.prog 90 [.pointer (some ⟨p,0,none⟩),.int .i64 c,.int .i64 seq,.agg (outC o).toArray] Fr w [hisH p S]
  (fun v L=>v=.int .i64 (S.endE c seq o)∧L=[hisH p (S.end_ c seq o)]):=by
 have hrl:=ok.rl
 have he0:=ok.e0
 refine TF 63 Tryz.func90 rfl ym tabOk rfl rfl ?_
 refine VC.opn 0 rfl (HOpn.his p S) ?_
 rintro⟨a,cap⟩ -
 show VC _ _ _ [pt p (hisC S a cap) hisT,slH rcdT 14 a S.recs.length cap (flat recC S.recs)] _
 refine CS (CG (VG (VB (vs:=outC o) rfl fun ob=>VO.ent (L':=[pt p (hisC S a cap) hisT,slH rcdT 14 a S.recs.length cap (flat recC S.recs),pt ob (outC o) 156]) (pkZ [1,1,0]).ent ?_)))
 have fin:Ent ⟨Tryz.prog,tab,tabOk,63,Fr,w⟩ [pt p (hisC S a cap) hisT,slH rcdT 14 a S.recs.length cap (flat recC S.recs),pt ob (outC o) 156] [hisH p S]:=(Imp.his (K:=[]) (a,cap) (pkZ [0,0])).ent
 refine xjp ?_
 refine VG (VV (fun Fr w hF hw hS=>hnone_spec Fr w (hS.blk 0 rfl)) rfl ?_)
 refine zot ?_
 refine CS (VC.meetS (σ:=Unit) (fun _=>[(0,pV p),(1,.int .i64 c),(2,.int .i64 seq),(7,pV ob)]) (fun _=>[pt p (hisC S a cap) hisT,slH rcdT 14 a S.recs.length cap (flat recC S.recs),pt ob (outC o) 156]) (fun _=>¬(o.kind≠1∧o.kind≠2∧o.kind≠3)) ?_ ?_)
 ·refine xdv ?_
  by_cases k1:o.kind=1
  ·refine VG (VY 15 false rfl (by simp[k1]) ?_)
   refine xdv ?_
   refine VG (VY 20 false rfl rfl ?_)
   refine xdv ?_
   refine xdy ?_
   exact⟨(),fun h=>h.1 k1,sbZ,ER⟩
  refine VG (VY 15 true rfl (by simp[k1]) ?_)
  refine xdv ?_
  by_cases k2:o.kind=2
  ·refine VG (VY 20 false rfl (by simp[k2]) ?_)
   refine xdv ?_
   refine xdy ?_
   exact⟨(),fun h=>h.2.1 k2,sbZ,ER⟩
  refine VG (VY 20 true rfl (by simp[k2]) ?_)
  refine xdv ?_
  refine VC.condNE rfl (fun k3=>?_) (fun k3=>CK ?_)
  ·obtain⟨g1,g2⟩:=HisM.end_bad (S:=S) (c:=c) (seq:=seq) (o:=o) ⟨k1,k2,k3⟩
   refine xjq ?_
   exact xmb
  exact⟨(),fun h=>h.2.2 k3,sbZ,ER⟩
 rintro-hk
 refine xjp ?_
 refine xlz ?_
 rcases lastOf_cases ok c with ⟨e1,_⟩ | ⟨i,r,e1,e2,e3,e4⟩
 ·obtain⟨g1,g2⟩:=HisM.end_none (seq:=seq) hk e1
  rw[show lastV S a c=.pointer none by rw[lastV,e1]]
  refine xjq ?_
  refine VG (VY 30 true rfl rfl ?_)
  refine xjq ?_
  refine VG (VY 38 true rfl rfl ?_)
  refine zos ?_
  exact xmb
 refine VO.opn 1 rfl (HOpn.sl _ _ _ _ _ _) ?_
 rintro(_ | ⟨mb,rest⟩) ⟨x1,x2,x3⟩
 ·obtain⟨_,h0,_⟩:=x3
  omega
 obtain⟨rfl,x4⟩:=x3
 rw[show lastV S (some ⟨mb,0,none⟩) c=.pointer (some ⟨mb,0+i*14,none⟩) by rw[lastV,e1];rfl]
 show VO _ _ _ _ _ [pt mb (flat recC S.recs++rest) rcdT,pt p (hisC S (some ⟨mb,0,none⟩) cap) hisT,pt ob (outC o) 156] _
 have back:Ent ⟨Tryz.prog,tab,tabOk,63,Fr,w⟩ [pt mb (flat recC S.recs++rest) rcdT,pt p (hisC S (some ⟨mb,0,none⟩) cap) hisT,pt ob (outC o) 156] [pt p (hisC S (some ⟨mb,0,none⟩) cap) hisT,slH rcdT 14 (some ⟨mb,0,none⟩) S.recs.length cap (flat recC S.recs),pt ob (outC o) 156]:=(IP 1 rfl (Imp.sl x1 x2 x4 Imp.refl)).ent
 have c7:(flat recC S.recs++rest)[0+i*14+7]?=some (.int .i64 r.to):=by rw[Nat.zero_add];exact flat_cell recC_len e2 rfl rest
 have c1:(flat recC S.recs++rest)[0+i*14+1]?=some (.int .i64 r.seq):=by rw[Nat.zero_add];exact flat_cell recC_len e2 rfl rest
 refine xjq ?_
 refine VG (VY 30 false rfl rfl ?_)
 refine xjq ?_
 refine VG (VO.load rfl rfl (RdL.one 0 rfl c1) ?_)
 refine xjq ?_
 by_cases j1:r.seq=seq
 rotate_left
 ·obtain⟨g1,g2⟩:=HisM.end_no hk e1 (.inl j1)
  refine VG (VY 38 true rfl (by simp[j1]) ?_)
  refine zol ?_
  refine CN back ?_
  refine xjq ?_
  exact xmb
 refine VG (VY 38 false rfl (by simp[j1]) ?_)
 refine xjq ?_
 refine VG (VO.load rfl rfl (RdL.one 0 rfl c7) ?_)
 refine xjq ?_
 refine CP (p:=0≤r.to) rfl (fun j2=>?_) (fun j2=>CK ?_)
 ·obtain⟨g1,g2⟩:=HisM.end_no hk e1 (seq:=seq) (.inr j2)
  refine CN back ?_
  refine xjq ?_
  exact xmb
 obtain⟨g1,g2⟩:=HisM.end_ok hk e1 (o:=o) (seq:=seq) (by rintro(h | h);exact h j1;exact j2 h)
 refine CS (CD (ts 0 9 (.only 9 (ts 10 2 (.only 12 .nil)))) ym yr ?_)
 refine xgc ?_
 refine AG (VA.ldA 2 (outC o) rfl rfl rfl rfl rfl ?_)
 refine xgc ?_
 have hfl:∀x:RecM,((flat recC (S.recs.set i x)).length:Nat)=S.recs.length*14:=fun x=>by rw[flat_len recC_len,List.length_set]
 have hfl0:=flat_len recC_len S.recs
 have hi14:(i+1)*14≤S.recs.length*14:=Nat.mul_le_mul_right 14 e4
 refine AG (VA.st 0 (cs':=flat recC (S.recs.set i { r with to:=S.events })++rest) rfl rfl rfl rfl rfl (by rw[List.length_append,hfl0];omega) (by rw[Nat.zero_add];exact flat_setCell recC_len e2 yo rfl rest) rfl yu ?_)
 refine xjs ?_
 refine AG (AT (vs:=outC o) (cs':=flat recC (S.recs.set i (endR S r o))++rest) 0 rfl rfl rfl rfl rfl (by rw[List.length_append,hfl];show 0+i*14+8+6≤_;omega) (by rw[Nat.zero_add,flat_wr (a:={ r with to:=S.events }) (a':=endR S r o) recC_len (List.getElem?_set_self e4) (by show 8+6≤14;decide) rfl rest,List.set_set]) rfl rfl yu ?_)
 refine xjs ?_
 refine xds ?_
 refine zok ?_
 refine VG (VO.st 1 (cs':=hisC { S with events:=S.events+1 } (some ⟨mb,0,none⟩) cap) rfl rfl rfl rfl (by rw[his_len ok];decide) rfl rfl ?_)
 refine xjp ?_
 refine CR (Ret.tmp 8 rfl rfl (L':=[hisH p { S with recs:=S.recs.set i (endR S r o),events:=S.events+1 }]) ?_ ⟨by rw[g2],by rw[g1]⟩)
 refine(Imp.his (S:={ S with recs:=S.recs.set i (endR S r o),events:=S.events+1 }) (K:=[]) (some ⟨mb,0,none⟩,cap) ?_).ent
 show Imp _ [pt p ([.bool true,.slice (some ⟨mb,0,none⟩) (S.recs.set i (endR S r o)).length cap,.int .i64 (S.events+1)]++S.last.map (Value.int .i64)) hisT,slH rcdT 14 (some ⟨mb,0,none⟩) (S.recs.set i (endR S r o)).length cap (flat recC (S.recs.set i (endR S r o)))]
 rw[List.length_set]
 exact IP 1 rfl (Imp.sl (hfl _) x2 (by rw[List.length_append,hfl];rw[List.length_append,hfl0] at x4;exact x4) (IP 0 rfl Imp.nil))
end
end Cl
namespace Vg
open Go Go.MapKept
def iiV(k:Int×Int):Value:=.agg ([.int .i64 k.1,.int .i64 k.2]:List Value).toArray
theorem KeyOk.ii{P:Program}{t ti:TypeId}{f g:Field}{Ti:TI}(ht:P.underlying t=some (.struct #[f,g]))(hp:P.stoodInHeld t=false)(hf:f.name ≠ "_")(hg:g.name ≠ "_")(hf2:f.type=ti)(hg2:g.type=ti)(hfo:f.offset=0)(hgo:g.offset=1)
  (hi:P.underlying ti=some (.int .i64)) (hTi:TIok P ti Ti) (ha:Ti.und.agg=false):KeyOk P t iiV where
 inj:=fun a b h=>by
  obtain⟨a1,a2⟩:=a;obtain⟨b1,b2⟩:=b
  simp[iiV] at h
  rw[h.1,h.2]
 check:=fun e a w=>by
  have h1:(part ti ([.int .i64 a.1,.int .i64 a.2]:List Value).toArray 0).run P w=.ok (.int .i64 a.1) w:=part1 hTi ha rfl w
  have h2:(part ti ([.int .i64 a.1,.int .i64 a.2]:List Value).toArray 1).run P w=.ok (.int .i64 a.2) w:=part1 hTi ha rfl w
  have c1:(Instr.checkKey e (9998+1) ti (.int .i64 a.1)).run P w=.ok () w:=run_checkKey hi (by rfl) e 9998
  have c2:(Instr.checkKey e (9998+1) ti (.int .i64 a.2)).run P w=.ok () w:=run_checkKey hi (by rfl) e 9998
  show(Instr.checkKey e (9999+1) t (iiV a)).run P w=_
  unfold Instr.checkKey
  rw[Sem.run_bind,run_underlying ht]
  simp only[Result.andThen_ok,iiV]
  rw[←Array.forIn_toList]
  simp[hf,hg,hf2,hg2,hfo,hgo,h1,h2,Sem.run_bind,Result.andThen]
  rw[show(9999:Nat)=9998+1 from rfl,c1]
  simp[Result.andThen,h2,c2]
 find:=fun {α} d a xs es hes w=>by
  unfold Instr.findKey
  rw[Sem.run_bind,run_underlying ht]
  simp only[Result.andThen_ok]
  have hnow:∀(l:List MapEntry) (ys:List ((Int×Int)×α)) (i:Nat),l.map (fun e=>(e.key,e.val))=ys.map (fun x=>(iiV x.1,d x.2))→(l≠[]→Instr.findNow (.struct #[f,g]) (iiV a) l i=none):=by
   intro l ys i hl hne
   cases l with
   | nil=>exact absurd rfl hne
   | cons e r=>rfl
  have heq:∀(a b:Int×Int) (w:World),(Op.equal t (iiV a) (iiV b)).run P w=.ok (decide (a=b)) w:=fun a b w=>by
   have hx1:∀w:World,(part f.type ([.int .i64 a.1,.int .i64 a.2]:List Value).toArray f.offset).run P w=.ok (.int .i64 a.1) w:=fun w=>by rw[hf2,hfo];exact part1 hTi ha rfl w
   have hx2:∀w:World,(part g.type ([.int .i64 a.1,.int .i64 a.2]:List Value).toArray g.offset).run P w=.ok (.int .i64 a.2) w:=fun w=>by rw[hg2,hgo];exact part1 hTi ha rfl w
   have hy1:∀w:World,(part f.type ([.int .i64 b.1,.int .i64 b.2]:List Value).toArray f.offset).run P w=.ok (.int .i64 b.1) w:=fun w=>by rw[hf2,hfo];exact part1 hTi ha rfl w
   have hy2:∀w:World,(part g.type ([.int .i64 b.1,.int .i64 b.2]:List Value).toArray g.offset).run P w=.ok (.int .i64 b.2) w:=fun w=>by rw[hg2,hgo];exact part1 hTi ha rfl w
   refine EqT.run (EqT.eq (EqT.st ht hp (EqFs.cons hf hx1 hy1 (hf2▸EqT.int hi a.1 b.1) (EqFs.cons hg hx2 hy2 (hg2▸EqT.int hi a.2 b.2) EqFs.nil))) ?_) yo w
   obtain⟨a1,a2⟩:=a;obtain⟨b1,b2⟩:=b
   by_cases h1:a1=b1<;>by_cases h2:a2=b2<;>simp[h1,h2]
  cases es with
  | nil=>
   cases xs with
   | nil=>rfl
   | cons _ _=>cases hes
  | cons e r=>
   rw[hnow (e::r) xs 0 hes yf]
   exact findAsking_of heq d a xs (e::r) 0 hes w
 bits:=fun a=>by simp[iiV,Instr.sameBits]
theorem born_at{l:List MapEntry}(hn:(l.map (·.born)).Nodup):∀{j:Nat} {m:MapEntry},l[j]?=some m→l.findIdx? (fun e=>(e.born:Int) == (m.born:Int))=some j:=by
 induction l with
 | nil=>intro j m h;cases h
 | cons a r ih=>
  intro j m h
  simp only[List.map_cons,List.nodup_cons] at hn
  rw[List.findIdx?_cons]
  cases j with
  | zero=>
   simp only[List.getElem?_cons_zero,Option.some.injEq] at h
   subst h
   simp
  | succ j=>
   simp only[List.getElem?_cons_succ] at h
   have hne:((a.born:Int) == (m.born:Int))=false:=by
    rw[beq_eq_false_iff_ne]
    intro e
    exact hn.1 (List.mem_map.2 ⟨m,ME h,(Int.ofNat.inj e).symm⟩)
   rw[hne,ih hn.2 h];rfl
theorem born_arr{es:Array MapEntry}(hn:(es.toList.map (·.born)).Nodup){j:Nat}{m:MapEntry}(h:es[j]?=some m):es.findIdx? (fun e=>(e.born:Int) == (m.born:Int))=some j:=by
 have:=born_at hn (j:=j) (m:=m) yc
 cases es
 simpa using this
theorem modify_push(es:Array MapEntry)(m:MapEntry)(f:MapEntry→MapEntry):(es.push m).modify es.size f=es.push (f m):=by
 apply Array.ext_getElem?
 intro i
 rw[Array.getElem?_modify,Array.getElem?_push,Array.getElem?_push]
 by_cases h:es.size=i
 ·subst h;simp
 ·rw[if_neg h,if_neg (fun k=>h k.symm),if_neg (fun k=>h k.symm)]
theorem modify_twice(es:Array MapEntry)(j:Nat)(k v:Value):(es.modify j fun e=>{ e with key:=k }).modify j (fun e=>{ e with val:=v })=es.modify j fun e=>{ e with key:=k,val:=v }:=by
 apply Array.ext_getElem?
 intro i
 simp only[Array.getElem?_modify]
 by_cases h:j=i
 ·subst h;simp;rfl
 ·simp[h]
def mentH{κ α:Type}[DecidableEq κ](c:κ→Value)(d:α→Value)(b:Nat)(xs:List (κ×α))(a:κ)(st:Nat):HP:=
 ⟨fun ids w=>ids=[b]∧∃(es:Array MapEntry) (clock j:Nat),w.heap[b]?=some (.map es clock)∧es.findIdx? (fun e=>(e.born:Int) == (st:Int))=some j ∧
   ∀u,(es.modify j fun e=>{ e with val:=d u }).toList.map (fun e=>(e.key,e.val))=(mPut xs a u).map (fun x=>(c x.1,d x.2))∧Stamped (es.modify j fun e=>{ e with val:=d u }) clock,
  fun _ _ _ h hs=>⟨hs.1,by
   obtain⟨es,k,j,h1,h2⟩:=hs.2
   exact⟨es,k,j,(h b yb).trans h1,h2⟩⟩⟩
section
variable {X:Cx} {κ α:Type} [DecidableEq κ] {c:κ→Value} {d:α→Value} {b:Nat} {xs:List (κ×α)} {e:Env} {L:List HP} {T kt et:TypeId} {te:TI} {x y z:Operand}
theorem OpT.mapEntry(i:Nat)(K:KeyOk X.P kt c)(hT:X.P.underlying T=some (.map kt et))(hE:tyLook X.tab et=some te){a:κ}(hx:ev e x=some (.map (some b)))(hk:ev e y=some (c a))(hL:L[i]?=some (mapH c d b xs)):
  OpT X (.mapEntry T x y) e L (fun v L'=>∃st:Nat,v=.tuple #[((mGet xs a).map d).getD te.zero,.int .i64 st]∧L'=L.set i (mentH c d b xs a st)):=fun ac w ha hw dst ty pos after guard=>by
 obtain⟨⟨es,clock,h1,h2,h3⟩,hf⟩:=hw.atMap hL
 have hfi:=K.find d a xs es.toList h2 w
 have hids:∀ids w,(mapH c d b xs).sat ids w→ids=[b]:=fun _ _ h=>h.1
 have P:=fun u=>map_put K a u h2 h3
 cases hl:lookI xs a 0 with
 | none=>
  obtain⟨hg,_⟩:=lookI_none hl
  rw[hl] at hfi
  have hz:=run_zero (X.ok.look hE) (w:=w)
  refine .inl ⟨_,setBlk w b (.map (es.push { key:=c a,val:=te.zero,born:=clock }) (clock+1)),_,?_,⟨clock,rfl,rfl⟩,hw.setG hL hids h1 hf ⟨rfl,_,_,es.size,heap_setBlk h1,?_,fun u=>?_⟩⟩
  ·have:(Instr.mapEntry T (.map (some b)) (c a)).run X.P w=.ok (.tuple #[te.zero,.int .i64 clock]) (setBlk w b (.map (es.push { key:=c a,val:=te.zero,born:=clock }) (clock+1))):=by
    simp[Instr.mapEntry,run_underlying hT,MapKept.run_getObj_map h1,K.check,hfi,hz,MapKept.run_setObj_map _ h1,Result.andThen,setBlk,goInt]
   simp only[execOp,ha.ev hx,ha.ev hk,hg]
   rw[Sem.run_bind,this];rfl
  ·have hk:∀x∈es.toList,x.key≠c a:=fun m hm he=>by
    have:(m.key,m.val)∈es.toList.map (fun e=>(e.key,e.val)):=List.mem_map.2 ⟨m,hm,rfl⟩
    rw[h2] at this
    obtain⟨x,hx,hx2⟩:=List.mem_map.1 this
    have e2:c x.1=m.key:=congrArg Prod.fst hx2
    exact(lookI_none hl).2.1 x hx (K.inj _ _ (e2.trans he))
   exact born_arr (m:={ key:=c a,val:=te.zero,born:=clock }) (stamped_push h3 (val:=te.zero) hk).2.1 yf
  ·rw[modify_push]
   exact(P u).2 hl
 | some p=>
  obtain⟨j,v⟩:=p
  obtain⟨_,hj,hg,_⟩:=lookI_some hl
  rw[Nat.sub_zero] at hj
  obtain⟨m,hm',hmk,_⟩:=es_map h2 hj
  have hm:es[j]?=some m:=by simpa using hm'
  rw[hl] at hfi
  have hst:=stamped_modify h3 j (fun e=>{ e with key:=c a }) (fun _ _=>rfl) (fun e _ he=>by rw[hm] at he;cases he;exact hmk.symm)
  have hat:(es.modify j fun e=>{ e with key:=c a })[j]?=some { m with key:=c a }:=by rw[Array.getElem?_modify,if_pos rfl,hm];rfl
  refine .inl ⟨_,setBlk w b (.map (es.modify j fun e=>{ e with key:=c a }) clock),_,?_,⟨m.born,rfl,rfl⟩,hw.setG hL hids h1 hf ⟨rfl,_,_,j,heap_setBlk h1,born_arr (m:={ m with key:=c a }) hst.2.1 hat,fun u=>?_⟩⟩
  ·have:(Instr.mapEntry T (.map (some b)) (c a)).run X.P w=.ok (.tuple #[d v,.int .i64 m.born]) (setBlk w b (.map (es.modify j fun e=>{ e with key:=c a }) clock)):=by
    simp[Instr.mapEntry,run_underlying hT,MapKept.run_getObj_map h1,K.check,hfi,hm,hmk,run_keyStays K,MapKept.run_setObj_map _ h1,Result.andThen,setBlk,goInt]
   simp only[execOp,ha.ev hx,ha.ev hk,hg]
   rw[Sem.run_bind,this];rfl
  ·rw[modify_twice]
   obtain⟨_,_,_,q1,q2⟩:=(P u).1 hl
   exact⟨q1,q2⟩
theorem OpT.mapEntryV(i:Nat)(K:KeyOk X.P kt c)(hT:X.P.underlying T=some (.map kt et))(hE:tyLook X.tab et=some te)(v0:Value){a:κ}(hx:ev e x=some (.map (some b)))(hk:ev e y=some (c a))(hL:L[i]?=some (mapH c d b xs))(hv:((mGet xs a).map d).getD te.zero=v0):
  OpT X (.mapEntry T x y) e L (fun v L'=>∃st:Nat,v=.tuple #[v0,.int .i64 st]∧L'=L.set i (mentH c d b xs a st)):=hv▸OpT.mapEntry i K hT hE hx hk hL
theorem OpT.entryStore(i:Nat){a:κ}{u:α}{st:Nat}(hx:ev e x=some (.map (some b)))(hs:ev e y=some (.int .i64 st))(hv:ev e z=some (d u))(hL:L[i]?=some (mentH c d b xs a st)):
  OpT X (.entryStore T x y z) e L (fun v L'=>v=undef∧L'=L.set i (mapH c d b (mPut xs a u))):=fun ac w ha hw dst ty pos after guard=>by
 obtain⟨F,hs1,_,hb⟩:=hw.sat
 obtain⟨ids,hp,hm⟩:=hs1.get hL
 obtain⟨rfl,es,clock,j,h1,h2,h3⟩:=hp
 have hf:=(hb b (hm b yf)).1
 have hids:∀ids w,(mentH c d b xs a st).sat ids w→ids=[b]:=fun _ _ h=>h.1
 obtain⟨q1,q2⟩:=h3 u
 refine .inr (.inl ⟨setBlk w b (.map (es.modify j fun e=>{ e with val:=d u }) clock),_,?_,⟨rfl,rfl⟩,hw.setG hL hids h1 hf ⟨rfl,_,_,heap_setBlk h1,q1,q2⟩⟩)
 have:(Instr.entryStore T (.map (some b)) (.int .i64 st) (d u)).run X.P w=.ok () (setBlk w b (.map (es.modify j fun e=>{ e with val:=d u }) clock)):=by
  simp[Instr.entryStore,MapKept.run_getObj_map h1,asInt,asIntOf,h2,MapKept.run_setObj_map _ h1,Result.andThen,setBlk]
 simp only[execOp,ha.ev hx,ha.ev hs,ha.ev hv]
 rw[Sem.run_bind,this];rfl
end
end Vg
namespace Vg
open Go Go.MapKept
theorem inj_of_nodup_map{α β:Type}{f:α→β}:∀{l:List α} {a b:α},(l.map f).Nodup→a∈l→b∈l→f a=f b→a=b
 | x::l,a,b,hn,ha,hb,e=>by
  simp only[List.map_cons,List.nodup_cons] at hn
  rcases List.mem_cons.1 ha with h1 | h1<;>rcases List.mem_cons.1 hb with h2 | h2
  ·rw[h1,h2]
  ·exact absurd (List.mem_map.2 ⟨b,h2,by rw[←e,h1]⟩) hn.1
  ·exact absurd (List.mem_map.2 ⟨a,h1,by rw[e,h2]⟩) hn.1
  ·exact inj_of_nodup_map hn.2 h1 h2 e
section
variable {κ α:Type} {c:κ→Value} {d:α→Value}
structure ZAt(c:κ→Value)(d:α→Value)(xs:List (κ×α))(es:Array MapEntry)(clock:Nat):Prop where
 row:es.toList.map (fun e=>(e.key,e.val))=xs.map (fun x=>(c x.1,d x.2))
 st:Stamped es clock
abbrev Zed(κ α:Type):=List (MapEntry×(κ×α))
structure ZOk(c:κ→Value)(d:α→Value)(xs:List (κ×α))(es:Array MapEntry)(J:Zed κ α):Prop where
 sub:∀z∈J,z∈es.toList.zip xs
 nd:(J.map fun z=>z.1.born).Nodup
theorem ZOk.nil{xs:List (κ×α)}{es:Array MapEntry}:ZOk c d xs es []:=⟨(fun _ h=>by cases h),List.Pairwise.nil⟩
def seenZ(J:Zed κ α):Array Nat:=(J.map fun z=>z.1.born).toArray
theorem seenZ_push(J:Zed κ α)(z:MapEntry×(κ×α)):(seenZ J).push z.1.born=seenZ (J ++ [z]):=by unfold seenZ;simp
theorem ZAt.len{xs:List (κ×α)}{es:Array MapEntry}{k:Nat}(h:ZAt c d xs es k):es.toList.length=xs.length:=by have:=congrArg List.length h.row;simpa using this
theorem ZAt.zip{xs:List (κ×α)}{es:Array MapEntry}{k:Nat}(h:ZAt c d xs es k){m:MapEntry}(hm:m∈es.toList):∃x,(m,x)∈es.toList.zip xs:=by
 obtain⟨i,hi,rfl⟩:=List.getElem_of_mem hm
 have hx:i<xs.length:=by rw[←h.len];exact hi
 exact⟨xs[i],List.mem_iff_getElem.2 ⟨i,by rw[List.length_zip];omega,by rw[List.getElem_zip]⟩⟩
theorem ZAt.kv{xs:List (κ×α)}{es:Array MapEntry}{k:Nat}(h:ZAt c d xs es k){z:MapEntry×(κ×α)}(hz:z∈es.toList.zip xs):z.1∈es.toList∧z.2∈xs∧z.1.key=c z.2.1∧z.1.val=d z.2.2:=by
 obtain⟨i,hi,rfl⟩:=List.mem_iff_getElem.1 hz
 rw[List.length_zip] at hi
 have h1:i<es.toList.length:=by omega
 have h2:i<xs.length:=by omega
 have e:=congrArg (fun l=>l[i]?) h.row
 simp only[List.getElem?_map,GE h1,GE h2,Option.map_some,Option.some.injEq,Prod.mk.injEq] at e
 rw[List.getElem_zip]
 exact⟨List.getElem_mem h1,List.getElem_mem h2,e.1,e.2⟩
theorem ZAt.all{xs:List (κ×α)}{es:Array MapEntry}{k:Nat}(h:ZAt c d xs es k){J:Zed κ α}(ok:ZOk c d xs es J)(h0:(leftOf es (seenZ J)).size=0):(J.map Prod.snd).Perm xs:=by
 have e1:(es.toList.zip xs).map Prod.fst=es.toList:=List.map_fst_zip (by rw[h.len];exact NR _)
 have e2:(es.toList.zip xs).map Prod.snd=xs:=List.map_snd_zip (by rw[h.len];exact NR _)
 have n1:J.Nodup:=(List.pairwise_map.1 ok.nd).imp fun hne e=>hne yaj
 have n2:(es.toList.zip xs).Nodup:=by
  have:((es.toList.zip xs).map fun z=>z.1.born).Nodup:=by
   rw[show(fun z:MapEntry×(κ×α)=>z.1.born)=(fun m:MapEntry=>m.born)∘Prod.fst from rfl,←List.map_map,e1];exact h.st.2.1
  exact(List.pairwise_map.1 this).imp fun hne e=>hne yaj
 have hall:∀m∈es.toList,m.born∈J.map fun z=>z.1.born:=fun m hm=>by
  have hf:leftOf es (seenZ J)=#[]:=Array.eq_empty_of_size_eq_zero h0
  unfold leftOf at hf
  rw[Array.filter_eq_empty_iff] at hf
  have:=hf m (by simpa using hm)
  simpa[seenZ] using this
 rw[←e2]
 refine List.Perm.map _ ((List.perm_ext_iff_of_nodup n1 n2).2 fun z=>⟨ok.sub z,fun hz=>?_⟩)
 obtain⟨y,hy,hb⟩:=List.mem_map.1 (hall z.1 (h.kv hz).1)
 have hy2:=ok.sub y hy
 have:y=z:=by
  have n3:((es.toList.zip xs).map fun z=>z.1.born).Nodup:=by
   rw[show(fun z:MapEntry×(κ×α)=>z.1.born)=(fun m:MapEntry=>m.born)∘Prod.fst from rfl,←List.map_map,e1];exact h.st.2.1
  exact inj_of_nodup_map n3 hy2 hz hb
 rw[←this];exact hy
def itmH(q b since:Nat)(J:Zed κ α):HP:=
 ⟨fun ids w=>ids=[q]∧w.heap[q]?=some (.mapIter (some b) since (seenZ J) since),fun _ _ _ h hs=>⟨hs.1,(h q yb).trans hs.2⟩⟩
end
section
variable {X:Cx} {κ α:Type} {c:κ→Value} {d:α→Value} {b q clock:Nat} {xs:List (κ×α)} {es:Array MapEntry} {e:Env} {L:List HP} {J:Zed κ α}
theorem OpT.rangeM(c:κ→Value)(d:α→Value){T kt et:TypeId}{x:Operand}(hT:X.P.underlying T=some (.map kt et))(hx:ev e x=some (.map (some b)))(hM:∀w,St X L w→w.heap[b]?=some (.map es clock)):
  OpT X (.range T x) e L (fun v L'=>∃q,v=.pointer (some ⟨q,0,none⟩)∧L'=itmH q b clock ([]:Zed κ α)::L):=fun ac w ha hw dst ty pos after guard=>by
 have h1:=hM w hw
 refine .inl ⟨_,w.alloc (.mapIter (some b) clock #[] clock),_,?_,⟨w.heap.size,rfl,rfl⟩,?_⟩
 ·simp[execOp,ha.ev hx,Instr.range,run_underlying hT,newObj,Sem.run,MapKept.run_getObj_map h1]
 ·exact⟨hw.sat.alloc hw.lowW _ _ ⟨rfl,heap_alloc_new w _⟩,hw.keep.trans (Keep.alloc hw.lowW _),hw.low⟩
theorem St.atItm{w:World}(h:St X L w){i:Nat}(hL:L[i]?=some (itmH q b clock J)):w.heap[q]?=some (.mapIter (some b) clock (seenZ J) clock)∧¬X.Fr q:=by
 obtain⟨F,hs,_,hb⟩:=h.sat
 obtain⟨ids,h1,h2⟩:=hs.get hL
 obtain⟨rfl,h1⟩:=h1
 exact⟨h1,(hb q (h2 q yf)).1⟩
theorem OpT.nextM{it:Operand}(i:Nat)(hx:ev e it=some (.pointer (some ⟨q,0,none⟩)))(hL:L[i]?=some (itmH q b clock J))(hM:∀w,St X L w→w.heap[b]?=some (.map es clock))(hz:ZAt c d xs es clock)(ok:ZOk c d xs es J):
  OpT X (.next it false) e L (fun v L'=>(v=.tuple #[.bool false]∧L'=L∧(J.map Prod.snd).Perm xs)∨∃z,v=.tuple #[.bool true,c z.2.1,d z.2.2]∧z.2∈xs∧z∈es.toList.zip xs∧ZOk c d xs es (J ++ [z])∧L'=L.set i (itmH q b clock (J ++ [z]))):=fun ac w ha hw dst ty pos after guard=>by
 have h1:=hM w hw
 obtain⟨h3,hf⟩:=hw.atItm hL
 have hids:∀ids w,(itmH q b clock J).sat ids w→ids=[q]:=fun _ _ h=>h.1
 rcases run_next_at (P:=X.P) w ty q b clock clock (seenZ J) es clock h3 h1 hz.st.1 (NR _) with ⟨h4,h5⟩ | ⟨m,hm,w1,hw1,h5⟩
 ·refine .inl ⟨_,w,L,?_,.inl ⟨rfl,rfl,hz.all ok h4⟩,hw⟩
  simp only[execOp,ha.ev hx]
  rw[Sem.run_bind,h5];rfl
 ·have hm2:m∈es.toList∧m.born∉J.map fun z=>z.1.born:=by
   unfold leftOf at hm
   simpa[seenZ] using hm
  obtain⟨x,hzx⟩:=hz.zip hm2.1
  obtain⟨k1,k2,k3,k4⟩:=hz.kv hzx
  have ok2:ZOk c d xs es (J ++ [(m,x)]):=⟨fun z hz'=>by
    rcases List.mem_append.1 hz' with h | h
    ·exact ok.sub z h
    ·obtain rfl:=List.mem_singleton.1 h;exact hzx,by
    rw[List.map_append]
    exact List.nodup_append.2 ⟨ok.nd,by simp,fun a ha b hb e=>by simp at hb;subst hb;subst e;exact hm2.2 ha⟩⟩
  have hst1:St X L w1:=by rcases hw1 with rfl | rfl;exact hw;exact hw.drew
  have h31:w1.heap[q]?=some (.mapIter (some b) clock (seenZ J) clock):=by rcases hw1 with rfl | rfl<;>exact h3
  refine .inl ⟨_,setBlk w1 q (.mapIter (some b) clock ((seenZ J).push m.born) clock),_,?_,.inr ⟨(m,x),rfl,k2,hzx,ok2,rfl⟩,hst1.setG hL hids h31 hf ⟨rfl,?_⟩⟩
  ·simp only[execOp,ha.ev hx]
   rw[Sem.run_bind,h5]
   dsimp only at k3 k4
   rw[k3,k4];rfl
  ·rw[←seenZ_push J (m,x)];exact heap_setBlk h31
theorem OpT.entryM{it:Operand}(i:Nat){z:MapEntry×(κ×α)}(hx:ev e it=some (.pointer (some ⟨q,0,none⟩)))(hL:L[i]?=some (itmH q b clock (J ++ [z])))(hM:∀w,St X L w→w.heap[b]?=some (.map es clock))(hz:ZAt c d xs es clock)(hzz:z∈es.toList.zip xs):
  OpT X (.entry it) e L (fun v L'=>v=.tuple #[c z.2.1,d z.2.2]∧L'=L):=fun ac w ha hw dst ty pos after guard=>by
 have h1:=hM w hw
 obtain⟨h3,hf⟩:=hw.atItm hL
 obtain⟨k1,k2,k3,k4⟩:=hz.kv hzz
 refine .inl ⟨_,w,_,?_,⟨rfl,rfl⟩,hw⟩
 have h4:w.heap[q]?=some (.mapIter (some b) clock ((seenZ J).push z.1.born) clock):=by rw[seenZ_push];exact h3
 simp only[execOp,ha.ev hx]
 rw[Sem.run_bind,run_entry_at w q b clock (seenZ J) es clock z.1 h4 h1 k1 hz.st.2.1,k3,k4];rfl
end
end Vg
namespace Cl
open Go Vg T Api Ch
attribute [local irreducible] VO VC VA
theorem intsB_snoc:∀(k:Nat) (s:Bs),intsB (k+1) s=(intsB k s).bind fun p=>(unintB p.2).map fun u=>(p.1 ++ [u.1],u.2)
 | 0,s=>by
  rw[intsB,intsB]
  cases h:unintB s with
  | none=>simp[h]
  | some x=>simp[h,intsB]
 | k+1,s=>by
  rw[intsB,intsB]
  cases h:unintB s with
  | none=>rfl
  | some x=>
   dsimp only
   rw[intsB_snoc k x.2]
   cases h2:intsB k x.2 with
   | none=>rfl
   | some y=>
    simp only[Option.bind_some]
    cases h3:unintB y.2 with
    | none=>rfl
    | some z=>rfl
theorem intsB_none{s:Bs}{k:Nat}(h:intsB k s=none):∀j,intsB (k+j) s=none
 | 0=>h
 | j+1=>by rw[←Nat.add_assoc,intsB_snoc,intsB_none h j];rfl
theorem memsOf_snoc{a b:Int}:∀(k:Nat) (l:List Int),l.length=2*k→memsOf (l ++ [a,b])=memsOf l ++ [(a,b)]
 | 0,l,h=>by
  obtain rfl:l=[]:=List.eq_nil_of_length_eq_zero h
  rfl
 | k+1,l,h=>by
  match l,h with
  | x::y::l,h=>
   rw[List.cons_append,List.cons_append,memsOf,memsOf,memsOf_snoc k l (by simp at h;omega),List.cons_append]
  | [x],h=>simp at h;omega
  | [],h=>simp at h
theorem mem_get0{ms:List MemM}{k:Nat}{m:MemM}(h:ms[k]?=some m):(flat memC ms)[0+k*2]?=some (.int .i64 m.1):=by
 have:=flat_cell memC_len (j:=0) h rfl []
 rw[List.append_nil] at this
 rw[Nat.zero_add];exact this
theorem mem_get1{ms:List MemM}{k:Nat}{m:MemM}(h:ms[k]?=some m):(flat memC ms)[0+k*2+1]?=some (.int .i64 m.2):=by
 have:=flat_cell memC_len (j:=1) h rfl []
 rw[List.append_nil] at this
 rw[Nat.zero_add];exact this
theorem mem_set0{ms:List MemM}{k:Nat}{m:MemM}(x:Int)(h:ms[k]?=some m):(flat memC ms).set (0+k*2) (.int .i64 x)=flat memC (ms.set k (x,m.2)):=by
 have:=flat_setCell memC_len (j:=0) (a':=(x,m.2)) h yo rfl []
 rw[List.append_nil,List.append_nil] at this
 rw[Nat.zero_add];exact this
theorem mem_set1{ms:List MemM}{k:Nat}{m:MemM}(x:Int)(h:ms[k]?=some m):(flat memC ms).set (0+k*2+1) (.int .i64 x)=flat memC (ms.set k (m.1,x)):=by
 have:=flat_setCell memC_len (j:=1) (a':=(m.1,x)) h yo rfl []
 rw[List.append_nil,List.append_nil] at this
 rw[Nat.zero_add];exact this
structure RdI(ok:Bool)(r:Bs)(ok':Bool)(k:Int)(q:Bs):Prop where
 len:q.length≤r.length
 t:ok'=true→ok=true∧unintB r=some (k,q)
 f:ok'=false→ok=false∨unintB r=none
abbrev booT:TypeId:=4
abbrev strT:TypeId:=9
def rdL(pb okb rb:Nat)(T:TypeId)(cs:List Value)(ok:Bool)(r:Bs):List HP:=[pt pb cs T,pt okb [.bool ok] booT,pt rb [.string (bT r)] strT]
theorem rdcl_spec{pb off okb rb:Nat}{T:TypeId}{cs:List Value}{ok:Bool}{r:Bs}{k0:Int}(h0:cs[off]?=some (.int .i64 k0))(hr:r.length≤1000000):
  Tri Tryz.prog 278 [.pointer (some ⟨pb,off,none⟩),.pointer (some ⟨okb,0,none⟩),.pointer (some ⟨rb,0,none⟩)] Fr w (rdL pb okb rb T cs ok r)
   (fun v L=>v=.tuple #[]∧∃k q ok',RdI ok r ok' k q∧L=rdL pb okb rb T (cs.set off (.int .i64 k)) ok' q):=by
 have hlt:off<cs.length:=(List.getElem?_eq_some_iff.1 h0).1
 have hself:cs.set off (.int .i64 k0)=cs:=by
  refine List.ext_getElem? fun j=>?_
  by_cases h:off=j
  ·subst h;rw[List.getElem?_set_self hlt,h0]
  ·rw[List.getElem?_set_ne h]
 unfold rdL
 refine TF 13 Tryz.func278 rfl ym tabOk rfl rfl ?_
 refine xgs ?_
 refine xjp ?_
 refine CC rfl (fun h=>?_) (fun h=>CK ?_)
 rotate_left
 ·exact Ret.void rfl ER ⟨rfl,k0,r,ok,⟨NR _,fun h2=>(by rw[h] at h2;cases h2),fun _=>.inl h⟩,by rw[hself]⟩
 subst h
 obtain⟨k,q,ok',hv,hql,hk1,hk2⟩:=un_get r
 refine xjp ?_
 refine VG (VO.ld 2 rfl rfl rfl rfl ?_)
 refine VG (VV (fun Fr w hF hw _=>hv▸unint_spec Fr w r hr) rfl ?_)
 refine xjp ?_
 refine VG (VO.st 0 (cs':=cs.set off (.int .i64 k)) rfl rfl rfl rfl hlt rfl rfl ?_)
 refine VG (VO.st 2 (cs':=[.string (bT q)]) rfl rfl rfl rfl Nat.zero_lt_one rfl rfl ?_)
 refine VG (VO.st 1 (cs':=[.bool ok']) rfl rfl rfl rfl Nat.zero_lt_one rfl rfl ?_)
 refine xjp ?_
 exact Ret.void rfl ER ⟨rfl,k,q,ok',⟨hql,fun h=>⟨rfl,hk1 h⟩,fun h=>.inr (hk2 h)⟩,rfl⟩
structure LI(n:Nat)(r0:Bs)(N:Nat)(x:Nat×List MemM×Bs×Bool):Prop where
 k:x.1≤n
 ms:x.2.1.length=n
 len:x.2.2.1.length≤N
 t:x.2.2.2=true→∃l,intsB (2*x.1) r0=some (l,x.2.2.1)∧x.2.1.take x.1=memsOf l∧l.length=2*x.1
 f:x.2.2.2=false→intsB (2*n) r0=none
theorem LI.next{n N k:Nat}{r0 r q p:Bs}{ms:List MemM}{ok ok1 ok2:Bool}{a b:Int}{m:MemM}(h:LI n r0 N (k,ms,r,ok))(hk:k<n)(h1:RdI ok r ok1 a q)(h2:RdI ok1 q ok2 b p):LI n r0 N (k+1,ms.set k (a,b),p,ok2):=by
 have hl:=h.ms
 have hlen:=h.len
 have l1:=h1.len
 have l2:=h2.len
 dsimp only at hl hlen
 have step:∀l,intsB (2*k) r0=some (l,r)→intsB (2*k+1) r0=(unintB r).map fun u=>(l ++ [u.1],u.2):=fun l hl=>by rw[intsB_snoc,hl];rfl
 refine⟨hk,by simp[hl],by dsimp only;omega,fun e=>?_,fun e=>?_⟩
 ·obtain⟨e1,u2⟩:=h2.t e
  obtain⟨e0,u1⟩:=h1.t e1
  obtain⟨l,hi,ht,hll⟩:=h.t e0
  dsimp only at hi ht hll ⊢
  refine⟨l ++ [a,b],?_,?_,by simp[hll];omega⟩
  ·rw[show 2*(k+1)=2*k+1+1 from by omega,intsB_snoc,step l hi,u1]
   simp[u2]
  ·rw[memsOf_snoc k l hll,←ht,List.take_add_one,List.getElem?_set_self yd,List.take_set_of_le (NR _)];rfl
 ·show intsB (2*n) r0=none
  have two:∀j,2*k+j≤2*n→intsB (2*k+j) r0=none→intsB (2*n) r0=none:=fun j hj hn=>by
   have:=intsB_none hn (2*n-(2*k+j))
   rwa[show 2*k+j+(2*n-(2*k+j))=2*n from by omega] at this
  by_cases e0:ok=true
  rotate_left
  ·exact h.f (by simpa using e0)
  obtain⟨l,hi,_,_⟩:=h.t e0
  by_cases e1:ok1=true
  rotate_left
  ·rcases h1.f (by simpa using e1) with g | g
   ·rw[g] at e0;cases e0
   ·exact two 1 yd (by rw[step l hi,g];rfl)
  ·obtain⟨_,u1⟩:=h1.t e1
   rcases h2.f e with g | g
   ·rw[g] at e1;cases e1
   ·exact two 2 yd (by rw[intsB_snoc,step l hi,u1];simp[g])
end Cl
namespace Cl
open Go Vg T Api Ch
attribute [local irreducible] VO VC VA
def chZc:List Value:=[.int .i64 0,.slice none 0 0,.int .i64 0]
def cgR(o:Option ChM)(v:Value)(L:List HP):Prop:=match o with
 | some c=>∃a cap,v=.tuple #[.agg (c.cells a cap).toArray,.int .i64 0]∧L=[slH memT 2 a c.ms.length cap (flat memC c.ms)]
 | none=>v=.tuple #[.agg chZc.toArray,.int .i64 10]∧L=[]
theorem getCh_none1{s:Bs}(h:unintB s=none):getCh s=none:=by unfold getCh;rw[h]
theorem getCh_none2{s r:Bs}{k:Int}(h:unintB s=some (k,r))(h2:unintB r=none):getCh s=none:=by unfold getCh;rw[h];dsimp only;rw[h2]
theorem getCh_none3{s r q:Bs}{k z:Int}(h:unintB s=some (k,r))(h2:unintB r=some (z,q))(h3:z<1∨6<z):getCh s=none:=by unfold getCh;rw[h];dsimp only;rw[h2];dsimp only;rw[if_pos h3]
theorem getCh_some{s r q:Bs}{k:Int}{n:Nat}(h:unintB s=some (k,r))(h2:unintB r=some ((n:Int),q))(h3:1≤n∧n≤6):getCh s=match intsB (2*n) q with
   | none=>none
   | some (l,r)=>match unintB r with
    | none=>none
    | some (dr,r)=>if r=[]∧chE ⟨k,memsOf l,dr⟩=0 then some ⟨k,memsOf l,dr⟩ else none:=by
 unfold getCh;rw[h];dsimp only;rw[h2];dsimp only;rw[if_neg yd];rfl
abbrev intT:TypeId:=3
def dC(ep:Int)(a:Value)(dr:Int):List Value:=[.int .i64 ep,a,.int .i64 dr]
theorem cget_spec(s:Bs)(hs:s.length≤1000000):Tri Tryz.prog 245 [.string (bT s)] Fr w [] (cgR (getCh s)):=by
 refine TF 68 Tryz.func245 rfl ym tabOk rfl rfl ?_
 refine CS (CG (VG (VO.alloc rfl fun b2=>?_)))
 refine xjp ?_
 refine VG (VO.alloc rfl fun b4=>?_)
 refine xjp ?_
 refine VG (VO.alloc rfl fun b5=>?_)
 refine VG (VO.alloc rfl fun b6=>?_)
 refine VG (VO.alloc rfl fun b7=>?_)
 refine VG (VO.st 2 (cs':=[.string (bT s)]) rfl rfl rfl rfl Nat.zero_lt_one rfl rfl ?_)
 refine VG (VO.st 1 (cs':=[.bool true]) rfl rfl rfl rfl Nat.zero_lt_one rfl rfl ?_)
 refine VG (VO.st 0 (cs':=[.int .i64 0]) rfl rfl rfl rfl Nat.zero_lt_one rfl rfl ?_)
 refine xjp ?_
 refine VG (VI (light_makeFunc (u:=[]) (v:=[.pointer (some ⟨b6,0,none⟩),.pointer (some ⟨b5,0,none⟩)]) rfl rfl) ?_)
 refine xjp ?_
 refine VO.ent (L':=rdL b4 b6 b5 chT (dC 0 (.slice none 0 0) 0) true s ++ [pt b7 [.int .i64 0] intT,pt b2 chZc chT]) (pkZ [3,1,1,0,0]).ent ?_
 refine VG (VO.callF (Lc:=rdL b4 b6 b5 chT (dC 0 (.slice none 0 0) 0) true s) (Lr:=[pt b7 [.int .i64 0] intT,pt b2 chZc chT]) rfl (fun Fr w hF hw _=>rdcl_spec Fr w (k0:=0) rfl hs) rfl rfl ?_)
 rintro _ _ ⟨rfl,k1,r1,ok1,i1,rfl⟩
 have n1:=i1.len
 refine xjp ?_
 refine VO.ent (L':=rdL b7 b6 b5 intT [.int .i64 0] ok1 r1 ++ [pt b4 (dC k1 (.slice none 0 0) 0) chT,pt b2 chZc chT]) (pkZ [3,1,1,0,0]).ent ?_
 refine VG (VO.callF (Lc:=rdL b7 b6 b5 intT [.int .i64 0] ok1 r1) (Lr:=[pt b4 (dC k1 (.slice none 0 0) 0) chT,pt b2 chZc chT]) rfl (fun Fr w hF hw _=>rdcl_spec Fr w (k0:=0) rfl yd) rfl rfl ?_)
 rintro _ _ ⟨rfl,z,r2,ok2,i2,rfl⟩
 have n2:=i2.len
 show VO _ _ _ _ _ [pt b7 [.int .i64 z] intT,pt b6 [.bool ok2] booT,pt b5 [.string (bT r2)] strT,pt b4 (dC k1 (.slice none 0 0) 0) chT,pt b2 chZc chT] _
 refine xjp ?_
 refine xgk ?_
 cases ok2 with
 | false=>
  have hn:getCh s=none:=by
   by_cases e1:ok1=true
   ·obtain⟨_,u1⟩:=i1.t e1
    rcases i2.f rfl with g | g
    ·rw[g] at e1;cases e1
    ·exact getCh_none2 u1 g
   ·rcases i1.f (by simpa using e1) with g | g
    ·cases g
    ·exact getCh_none1 g
  refine xjq ?_
  refine VG (VY 19 true rfl rfl ?_)
  refine xjq ?_
  refine VG (VY 23 true rfl rfl ?_)
  refine zoy ?_
  refine zqm ?_
  exact xme
 | true=>
 obtain⟨e1,u2⟩:=i2.t rfl
 obtain⟨_,u1⟩:=i1.t e1
 clear i1 i2
 refine xjq ?_
 refine VG (VY 19 false rfl rfl ?_)
 refine xdn ?_
 by_cases h1:z<1
 ·have hn:getCh s=none:=getCh_none3 u1 u2 (.inl h1)
  refine VG (VY 23 true rfl (DT h1) ?_)
  refine zoy ?_
  refine zqm ?_
  exact xme
 refine VG (VY 23 false rfl (DF h1) ?_)
 refine xdn ?_
 refine CP (p:=6<z) rfl (fun h2=>?_) (fun h2=>CK ?_)
 ·have hn:getCh s=none:=getCh_none3 u1 u2 (.inr h2)
  refine xjp ?_
  refine zqm ?_
  exact xme
 obtain⟨n,rfl⟩:∃n:Nat,z=n:=⟨z.toNat,by omega⟩
 have hG:=getCh_some u1 u2 yd
 clear u1 u2 e1
 refine xdf ?_
 refine VG (VO.makeSlice n rfl rfl rfl rfl rfl rfl rfl yd (by show 16*n≤_;omega) fun mb=>?_)
 rw[show(List.replicate n T.t78.zs).flatten=flat memC (List.replicate n (0,0)) from flat_replicate (c:=memC) n (0,0)]
 refine xjp ?_
 refine VG (VO.st 4 (cs':=dC k1 (.slice (some ⟨mb,0,none⟩) n n) 0) rfl rfl rfl rfl yad rfl rfl ?_)
 refine xfh ?_
 refine VC.loop (σ:=Nat×List MemM×Bs×Bool) (fun x=>[(2,pV b2),(4,pV b4),(5,pV b5),(6,pV b6),(8,fnV 278 [] [.pointer (some ⟨b6,0,none⟩),.pointer (some ⟨b5,0,none⟩)]),(33,.int .i64 n),(34,.int .i64 (x.1:Int))])
  (fun x=>[pt mb (flat memC x.2.1) memT,pt b6 [.bool x.2.2.2] booT,pt b5 [.string (bT x.2.2.1)] strT,pt b4 (dC k1 (.slice (some ⟨mb,0,none⟩) n n) 0) chT,pt b2 chZc chT]) (LI n r2 s.length) (fun x=>n-x.1) (0,List.replicate n (0,0),r2,true)
  ⟨Nat.zero_le _,by simp,by dsimp only;omega,fun _=>⟨[],rfl,rfl,rfl⟩,fun h=>(Bool.false_ne_true h.symm).elim⟩ sbZ (pkZ [0,1,1,1,1]).ent ?_
 rintro⟨k,ms,r,ok⟩ hI
 have hk:=hI.k
 have hml:=hI.ms
 have hrl:=hI.len
 dsimp only at hk hml hrl ⊢
 refine xjp ?_
 refine CP (p:=(k:Int)<n) rfl (fun h3=>CK ?_) (fun h3=>CX ?_)
 ·obtain⟨m,hm⟩:∃m,ms[k]?=some m:=⟨_,GE yd⟩
  refine xmf ?_
  refine xgf ?_
  refine xjp ?_
  refine VG (VO.callF (Lc:=rdL mb b6 b5 memT (flat memC ms) ok r) (Lr:=[pt b4 (dC k1 (.slice (some ⟨mb,0,none⟩) n n) 0) chT,pt b2 chZc chT]) rfl (fun Fr w hF hw _=>rdcl_spec Fr w (mem_get0 hm) yd) rfl rfl ?_)
  rintro _ _ ⟨rfl,x,q,ok1,i1,rfl⟩
  have n1:=i1.len
  rw[mem_set0 x hm]
  have hm2:(ms.set k (x,m.2))[k]?=some (x,m.2):=List.getElem?_set_self yd
  show VO _ _ _ _ _ [pt mb (flat memC (ms.set k (x,m.2))) memT,pt b6 [.bool ok1] booT,pt b5 [.string (bT q)] strT,pt b4 (dC k1 (.slice (some ⟨mb,0,none⟩) n n) 0) chT,pt b2 chZc chT] _
  refine xmf ?_
  refine xgf ?_
  refine xjp ?_
  refine VG (VO.callF (Lc:=rdL mb b6 b5 memT (flat memC (ms.set k (x,m.2))) ok1 q) (Lr:=[pt b4 (dC k1 (.slice (some ⟨mb,0,none⟩) n n) 0) chT,pt b2 chZc chT]) rfl (fun Fr w hF hw _=>rdcl_spec Fr w (mem_get1 hm2) yd) rfl rfl ?_)
  rintro _ _ ⟨rfl,y,p,ok2,i2,rfl⟩
  rw[mem_set1 y hm2,List.set_set]
  refine zom ?_
  exact⟨(k+1,ms.set k (x,y),p,ok2),hI.next (m:=m) yd i1 i2,by dsimp only;omega,SC rfl (SC rfl (SC rfl (SC rfl (SC rfl (SC rfl (Sub.int rfl ybb (SN _))))))),ER⟩
 obtain rfl:k=n:=by omega
 refine xjp ?_
 refine VO.ent (L':=rdL b4 b6 b5 chT (dC k1 (.slice (some ⟨mb,0,none⟩) k k) 0) ok r ++ [pt mb (flat memC ms) memT,pt b2 chZc chT]) (pkZ [3,1,1,0,0]).ent ?_
 refine VG (VO.callF (Lc:=rdL b4 b6 b5 chT (dC k1 (.slice (some ⟨mb,0,none⟩) k k) 0) ok r) (Lr:=[pt mb (flat memC ms) memT,pt b2 chZc chT]) rfl (fun Fr w hF hw _=>rdcl_spec Fr w (off:=2) (k0:=0) rfl yd) rfl rfl ?_)
 rintro _ _ ⟨rfl,dr,q,ok3,i3,rfl⟩
 have n3:=i3.len
 show VO _ _ _ _ _ [pt b4 (dC k1 (.slice (some ⟨mb,0,none⟩) k k) dr) chT,pt b6 [.bool ok3] booT,pt b5 [.string (bT q)] strT,pt mb (flat memC ms) memT,pt b2 chZc chT] _
 refine xjp ?_
 refine xgk ?_
 cases ok3 with
 | false=>
  have hn:getCh s=none:=by
   rw[hG]
   by_cases e1:ok=true
   ·obtain⟨l,hl,_,_⟩:=hI.t e1
    dsimp only at hl
    rw[hl]
    rcases i3.f rfl with g | g
    ·rw[g] at e1;cases e1
    ·dsimp only;rw[g]
   ·rw[hI.f (by simpa using e1)]
  refine xjq ?_
  refine VG (VY 57 true rfl rfl ?_)
  refine xjq ?_
  refine VG (VY 61 true rfl rfl ?_)
  refine zoy ?_
  refine zqm ?_
  exact xme
 | true=>
 obtain⟨e1,u1⟩:=i3.t rfl
 obtain⟨l,hl,ht,hll⟩:=hI.t e1
 dsimp only at hl ht hll
 rw[hl] at hG
 dsimp only at hG
 rw[u1] at hG
 dsimp only at hG
 rw[List.take_of_length_le yd] at ht
 rw[←ht] at hG
 refine xjq ?_
 refine VG (VY 57 false rfl rfl ?_)
 refine xdv ?_
 by_cases hq:q=[]
 rotate_left
 ·have hn:getCh s=none:=by rw[hG,if_neg (fun h=>hq h.1)]
  refine VG (VY 61 true rfl (by rw[show(ByteArray.mk #[])=bT [] from rfl,bT_eq,DF hq];rfl) ?_)
  refine zoy ?_
  refine zqm ?_
  exact xme
 refine VG (VY 61 false rfl (by rw[show(ByteArray.mk #[])=bT [] from rfl,bT_eq,DT hq];rfl) ?_)
 refine xjq ?_
 have hdc:dC k1 (.slice (some ⟨mb,0,none⟩) k k) dr=(ChM.mk k1 ms dr).cells (some ⟨mb,0,none⟩) k:=by unfold dC ChM.cells;rw[hml]
 rw[hdc]
 refine xmg ?_
 refine VG (VV (fun Fr w hF hw hS=>Ch.check_spec Fr w (RwIn.blk (off:=0) (hS.blk 3 rfl) (fun i x hx=>by have:=flat_row memC_len hx [];rw[List.append_nil] at this;rw[Nat.zero_add];exact this)) (by rw[hml];omega)) rfl ?_)
 refine xjq ?_
 refine VC.condNE rfl (fun hc=>?_) (fun hc=>CK ?_)
 ·have hn:getCh s=none:=by rw[hG,if_neg (fun h=>hc h.2)]
  refine xjp ?_
  refine zqm ?_
  exact xme
 rw[if_pos ⟨hq,hc⟩] at hG
 refine xjq ?_
 refine xmg ?_
 refine VG (VT (vs:=(ChM.mk k1 ms dr).cells (some ⟨mb,0,none⟩) k) (cs':=(ChM.mk k1 ms dr).cells (some ⟨mb,0,none⟩) k) 4 rfl rfl rfl rfl (NR _) rfl rfl rfl ?_)
 refine xjq ?_
 refine CR (Ret.cellTmp 2 3 rfl rfl rfl (RdL.many (ds:=(ChM.mk k1 ms dr).cells (some ⟨mb,0,none⟩) k) 4 rfl rfl) rfl (L':=[slH memT 2 (some ⟨mb,0,none⟩) ms.length k (flat memC ms)]) ?_ yca)
 have hsl:Imp [pt mb (flat memC ms ++ []) memT] [slH memT 2 (some ⟨mb,0,none⟩) ms.length k (flat memC ms)]:=Imp.sl (flat_len memC_len ms) yd (by rw[List.append_nil,flat_len memC_len];omega) Imp.refl
 rw[List.append_nil] at hsl
 exact((IP 3 rfl Imp.nil).trans hsl).ent
end Cl
namespace Cl
open Go Vg T Api Ch
attribute [local irreducible] VO VC VA
abbrev frmT:TypeId:=198
abbrev ipT:TypeId:=141
def pfC(fb:Nat)(o:Nat):List Value:=[.pointer (some ⟨fb,o,none⟩)]
theorem pfC_len(fb o:Nat):(pfC fb o).length=1:=rfl
abbrev inC(n:Int):List Value:=[.int .i64 n]
theorem within_spec{a:Option Addr}{c:Nat}{ns:List Int}(h:RwIn inC 1 Fr w a ns)(hl:ns.length≤1000):Tri Tryz.prog 222 [.slice a ns.length c] Fr w [] (fun v L=>v=.bool (ns.all inN)∧L=[]):=by
 refine TF 18 Tryz.func222 rfl ym tabOk rfl rfl ?_
 refine xjp ?_
 refine VC.loop (σ:=Nat) (fun k=>[(5,.slice a ns.length c),(6,.int .i64 ns.length),(7,.int .i64 (k:Int))]) (fun _=>[]) (fun k=>k≤ns.length∧(ns.take k).all inN=true) (fun k=>ns.length-k) 0
  ⟨Nat.zero_le _,by rw[List.take_zero];rfl⟩ sbZ ER ?_
 rintro k ⟨hk,hall⟩
 refine xjp ?_
 refine CP (p:=(k:Int)<ns.length) rfl (fun h1=>CK ?_) (fun h1=>CX ?_)
 rotate_left
 ·rw[List.take_of_length_le yd] at hall
  refine xjp ?_
  exact CR (Ret.tmp 2 rfl rfl ER ⟨by rw[hall],rfl⟩)
 obtain⟨x,hx⟩:∃x,ns[k]?=some x:=⟨_,GE yd⟩
 obtain⟨xb,xo,hxa,ra,rc⟩:=RwIn.rd (X:=⟨Tryz.prog,tab,tabOk,18,Fr,w⟩) h hx
 subst hxa
 have bad:inN x=false→ns.all inN=false:=fun hb=>by
  rw[List.all_eq_false]
  exact⟨x,ME hx,by rw[hb];decide⟩
 refine zov ?_
 refine xeb ?_
 refine xjp ?_
 by_cases h2:x<0
 ·refine VG (VY 13 true rfl (DT h2) ?_)
  refine zoy ?_
  exact CR (Ret.tmp 2 rfl rfl ER ⟨by rw[bad (DF yd)],rfl⟩)
 refine VG (VY 13 false rfl (DF h2) ?_)
 refine xjq ?_
 refine CP (p:=1099511627776<x) rfl (fun h3=>?_) (fun h3=>CK ?_)
 ·refine xjp ?_
  exact CR (Ret.tmp 2 rfl rfl ER ⟨by rw[bad (DF yd)],rfl⟩)
 refine zom ?_
 refine⟨k+1,⟨by omega,?_⟩,by dsimp only;omega,SC rfl (SC rfl (Sub.int rfl yd (SN _))),ER⟩
 rw[List.take_add_one,hx,List.all_append,hall]
 have:inN x=true:=DT yd
 simp[this]
def nmR(fb:Nat)(os:List Nat)(v:Value)(L:List HP):Prop:=∃a c,v=.slice a os.length c∧L=[slH ipT 1 a os.length c (flat (pfC fb) os)]
theorem numbers_spec{fb:Nat}{f:FrameM}{g:MemG}(h:Blk Fr w fb (f.cells g)):Tri Tryz.prog 156 [.pointer (some ⟨fb,0,none⟩)] Fr w [] (nmR fb (offs f.kind)):=by
 have fin:∀{X:Cx} {E:Env} {fn:Func} {b:Nat} (os:List Nat),fn.results=#[.tmp 2]→Vg.look E 2=some (.slice (some ⟨b,0,none⟩) os.length os.length)→offs f.kind=os→Ret X fn (nmR fb (offs f.kind)) E [pt b (flat (pfC fb) os) ipT]:=fun os h1 h2 h3=>
  Ret.tmp 2 h1 h2 (Imp.slW (by rw[flat_len (pfC_len fb)]) Imp.refl).ent (by rw[h3];exact⟨_,_,rfl,rfl⟩)
 refine TF 92 Tryz.func156 rfl ym tabOk rfl rfl ?_
 refine xjp ?_
 refine VG (VO.load rfl rfl (RdL.blk h rfl) ?_)
 refine xjp ?_
 refine CE rfl (fun h1=>?_) (fun h1=>?_)
 ·refine xjp ?_
  refine CD (ts 0 18 (.only 18 (.take 19 .nil))) ym yr ?_
  refine xjs ?_
  refine AG (AO (OpT.buildSlice (n:=6) (pv:=[(0,.pointer (some ⟨fb,1,none⟩)),(1,.pointer (some ⟨fb,2,none⟩)),(2,.pointer (some ⟨fb,3,none⟩)),(3,.pointer (some ⟨fb,4,none⟩)),(4,.pointer (some ⟨fb,5,none⟩)),(5,.pointer (some ⟨fb,6,none⟩))]) (cells:=flat (pfC fb) [1,2,3,4,5,6]) rfl rfl rfl rfl yo rfl) rfl (fun v L' g=>by obtain⟨b,rfl,rfl⟩:=g;exact yu) ?_)
  rintro _ _ ⟨b,rfl,rfl⟩
  refine xjs ?_
  exact CR (fin [1,2,3,4,5,6] rfl rfl yay)
 refine xjp ?_
 refine CE rfl (fun h2=>?_) (fun h2=>?_)
 ·refine xjp ?_
  refine CD (ts 0 9 (.only 9 (.take 10 .nil))) ym yr ?_
  refine xjs ?_
  refine AG (AO (OpT.buildSlice (n:=3) (pv:=[(0,.pointer (some ⟨fb,2,none⟩)),(1,.pointer (some ⟨fb,3,none⟩)),(2,.pointer (some ⟨fb,4,none⟩))]) (cells:=flat (pfC fb) [2,3,4]) rfl rfl rfl rfl yo rfl) rfl (fun v L' g=>by obtain⟨b,rfl,rfl⟩:=g;exact yu) ?_)
  rintro _ _ ⟨b,rfl,rfl⟩
  refine xjs ?_
  exact CR (fin [2,3,4] rfl rfl (by rw[h2];rfl))
 refine xjp ?_
 refine CE rfl (fun h3=>?_) (fun h3=>?_)
 ·refine xjp ?_
  refine CD (ts 0 15 (.only 15 (.take 16 .nil))) ym yr ?_
  refine xjs ?_
  refine AG (AO (OpT.buildSlice (n:=5) (pv:=[(0,.pointer (some ⟨fb,1,none⟩)),(1,.pointer (some ⟨fb,2,none⟩)),(2,.pointer (some ⟨fb,3,none⟩)),(3,.pointer (some ⟨fb,4,none⟩)),(4,.pointer (some ⟨fb,15,none⟩))]) (cells:=flat (pfC fb) [1,2,3,4,15]) rfl rfl rfl rfl yo rfl) rfl (fun v L' g=>by obtain⟨b,rfl,rfl⟩:=g;exact yu) ?_)
  rintro _ _ ⟨b,rfl,rfl⟩
  refine xjs ?_
  exact CR (fin [1,2,3,4,15] rfl rfl (by rw[h3];rfl))
 refine CS (VC.meetS (σ:=Bool) (fun x=>[(0,pV fb),(6,.int .i64 f.kind),(58,.bool x)]) (fun _=>[]) (fun x=>x=(decide (f.kind=4)||decide (f.kind=12))) ?_ ?_)
 ·refine xjp ?_
  refine CE rfl (fun h4=>CK ?_) (fun h4=>?_)
  ·exact⟨true,by rw[DT h4];rfl,SC rfl (SC rfl (Sub.bl rfl (by rw[h4];rfl) (SN _))),ER⟩
  ·refine xjp ?_
   exact⟨decide (f.kind=12),by rw[DF h4];rfl,SC rfl (SC rfl (Sub.bl rfl rfl (SN _))),ER⟩
 rintro x hx
 refine xjp ?_
 refine CC rfl (fun h4=>?_) (fun h4=>?_)
 ·have hk:f.kind=4∨f.kind=12:=by rw[hx] at h4;simpa using h4
  refine xjp ?_
  refine VG (VO.buildSlice (n:=1) (pv:=[(0,.pointer (some ⟨fb,1,none⟩))]) (flat (pfC fb) [1]) rfl rfl rfl rfl yo rfl fun b=>?_)
  refine xjp ?_
  exact CR (fin [1] rfl rfl (by rcases hk with e | e<;>rw[e]<;>rfl))
 have hk:f.kind≠4∧f.kind≠12:=by rw[hx] at h4;simpa using h4
 refine xjp ?_
 refine CE rfl (fun h5=>?_) (fun h5=>?_)
 ·refine xjp ?_
  refine CD (ts 0 12 (.only 12 (.take 13 .nil))) ym yr ?_
  refine xjs ?_
  refine AG (AO (OpT.buildSlice (n:=4) (pv:=[(0,.pointer (some ⟨fb,1,none⟩)),(1,.pointer (some ⟨fb,26,none⟩)),(2,.pointer (some ⟨fb,27,none⟩)),(3,.pointer (some ⟨fb,28,none⟩))]) (cells:=flat (pfC fb) [1,26,27,28]) rfl rfl rfl rfl yo rfl) rfl (fun v L' g=>by obtain⟨b,rfl,rfl⟩:=g;exact yu) ?_)
  rintro _ _ ⟨b,rfl,rfl⟩
  refine xjs ?_
  exact CR (fin [1,26,27,28] rfl rfl (by rw[h5];rfl))
 refine CS (VC.meetS (σ:=Bool) (fun x=>[(0,pV fb),(6,.int .i64 f.kind),(80,.bool x)]) (fun _=>[]) (fun x=>x=true↔(f.kind=6∨f.kind=9∨f.kind=10∨f.kind=11)) ?_ ?_)
 ·refine xjp ?_
  refine CE rfl (fun h6=>CK ?_) (fun h6=>?_)
  ·exact⟨true,by simp[h6],SC rfl (SC rfl (Sub.bl rfl (by rw[h6];rfl) (SN _))),ER⟩
  refine xjp ?_
  refine CE rfl (fun h7=>CK ?_) (fun h7=>?_)
  ·exact⟨true,by simp[h7],SC rfl (SC rfl (Sub.bl rfl (by rw[h7];rfl) (SN _))),ER⟩
  refine xjp ?_
  refine CE rfl (fun h8=>CK ?_) (fun h8=>?_)
  ·exact⟨true,by simp[h8],SC rfl (SC rfl (Sub.bl rfl (by rw[h8];rfl) (SN _))),ER⟩
  refine xjp ?_
  exact⟨decide (f.kind=11),by simp[h6,h7,h8],SC rfl (SC rfl (Sub.bl rfl rfl (SN _))),ER⟩
 rintro y hy
 refine xjp ?_
 refine CC rfl (fun h6=>?_) (fun h6=>CK ?_)
 ·have hk2:=hy.1 h6
  refine xjp ?_
  refine xjz ?_
  refine xjs ?_
  refine AG (AO (OpT.buildSlice (n:=2) (pv:=[(0,.pointer (some ⟨fb,1,none⟩)),(1,.pointer (some ⟨fb,26,none⟩))]) (cells:=flat (pfC fb) [1,26]) rfl rfl rfl rfl yo rfl) rfl (fun v L' g=>by obtain⟨b,rfl,rfl⟩:=g;exact yu) ?_)
  rintro _ _ ⟨b,rfl,rfl⟩
  refine xjs ?_
  exact CR (fin [1,26] rfl rfl (by rcases hk2 with e | e | e | e<;>rw[e]<;>rfl))
 have hk2:¬(f.kind=6∨f.kind=9∨f.kind=10∨f.kind=11):=fun k=>by rw[hy.2 k] at h6;cases h6
 have ho:offs f.kind=[]:=by
  unfold offs
  rw[if_neg h1,if_neg h2,if_neg h3,if_neg yd,if_neg h5,if_neg hk2]
 refine xjp ?_
 exact CR (Ret.tmp 2 rfl rfl (Imp.slNil Imp.nil).ent (by rw[ho];exact⟨_,_,rfl,rfl⟩))
end Cl
namespace Cl
open Go Vg T Api Ch
attribute [local irreducible] VO VC VA
theorem cell_num(f:FrameM)(g:MemG){o:Nat}(h:isOff o=true):(f.cells g)[o]?=some (.int .i64 (numF f o)):=by
 have hm:o∈[1,2,3,4,5,6,15,26,27,28]:=by unfold isOff at h;exact of_decide_eq_true h
 simp only[List.mem_cons,List.not_mem_nil,or_false] at hm
 rcases hm with rfl | rfl | rfl | rfl | rfl | rfl | rfl | rfl | rfl | rfl<;>rfl
theorem rwI{Fr:Nat→Prop}{w:World}{b:Nat}{ns:List Int}(h:Blk Fr w b (flat inC ns)):RwIn inC 1 Fr w (some ⟨b,0,none⟩) ns:=
 RwIn.blk (off:=0) h fun i x hx=>by
  have:=flat_row (c:=inC) (n:=1) (fun _=>rfl) hx []
  rw[List.append_nil] at this
  rw[Nat.zero_add];exact this
def resV(r:ResM):List Value:=[.int .i64 r.code,.string r.value,.int .i64 r.version,.int .i64 r.at_]
def entV(e:EntryM):List Value:=[.int .i64 e.index,.int .i64 e.client,.int .i64 e.seq,.int .i64 e.op.kind,.string e.op.key,.string e.op.value,.int .i64 e.op.version]
theorem may_spec{f:FrameM}{a:Option Addr}{cap:Nat}{ms:List MemM}(h:RwIn memC 2 Fr w a ms)(hl:ms.length≤1000000):Tri Tryz.prog 154 [.agg (f.cells (a,ms.length,cap)).toArray] Fr w [] (fun v L=>v=.bool (mayM f ms)∧L=[]):=by
 generalize hfc:f.cells (a,ms.length,cap)=fc
 have hch:(fc.drop 23).take 3=ChM.cells ⟨f.cepoch,ms,f.drain⟩ a cap:=by rw[←hfc];rfl
 have hop:(fc.drop 7).take 4=f.op.cells:=by rw[←hfc];rfl
 have hkd:fc[0]?=some (.int .i64 f.kind):=by rw[←hfc];rfl
 refine TF 86 Tryz.func154 rfl ym tabOk rfl rfl ?_
 refine CS (CG (VG (VB (vs:=fc) rfl fun b=>VG (VN ?_))))
 refine xjp ?_
 refine VG (VO.ld 0 rfl rfl rfl hkd ?_)
 refine xjp ?_
 by_cases h1:f.kind<1
 ·refine VG (VY 10 true rfl (DT h1) ?_)
  refine zoy ?_
  exact CR (Ret.tmp 2 rfl rfl Imp.nil.ent ⟨by rw[mayM,DF yd];rfl,rfl⟩)
 refine VG (VY 10 false rfl (DF h1) ?_)
 refine xjq ?_
 refine VG (VO.ld 0 rfl rfl rfl hkd ?_)
 refine xjq ?_
 refine CP (p:=12<f.kind) rfl (fun h2=>?_) (fun h2=>CK ?_)
 ·refine xjp ?_
  exact CR (Ret.tmp 2 rfl rfl Imp.nil.ent ⟨by rw[mayM,DF yd];rfl,rfl⟩)
 have hM:mayM f ms=((offs f.kind).all (fun o=>inN (numF f o))&&mayB f ms):=by rw[mayM,DT yd];rfl
 refine xjp ?_
 refine VG (VK (Lc:=[]) (fun Fr w hF hw hS=>numbers_spec Fr w (fb:=b) (f:=f) (g:=(a,ms.length,cap)) (by rw[hfc];exact hS.blk 0 rfl)) rfl rfl ?_)
 rintro _ _ ⟨na,nc,rfl,rfl⟩
 refine xjp ?_
 generalize hos:offs f.kind=os at hM
 have hof:∀o∈os,isOff o=true:=fun o ho=>offs_is f.kind o (by rw[hos];exact ho)
 have hol:os.length≤6:=by rw[←hos];exact offs_len _
 refine VC.opn 0 rfl (HOpn.rl ipT na nc os (pfC_len b)) ?_
 rintro⟨ra,rc,rb,rcs,rxs⟩ ⟨rok,rv,rx⟩
 dsimp only at rx
 subst rx
 injection rv with e1 _ e3
 subst e1 e3
 refine VC.loop (σ:=Nat) (fun k=>[(1,pV b),(15,.slice ra rxs.length rc),(16,.int .i64 rxs.length),(17,.int .i64 (k:Int))]) (fun _=>[RL.h ipT ⟨ra,rc,rb,rcs,rxs⟩,pt b fc frmT]) (fun k=>k≤rxs.length∧(rxs.take k).all (fun o=>inN (numF f o))=true) (fun k=>rxs.length-k) 0
  ⟨Nat.zero_le _,by rw[List.take_zero];rfl⟩ sbZ ER ?_
 rintro k ⟨hk,hall⟩
 refine xjp ?_
 refine CP (p:=(k:Int)<rxs.length) rfl (fun h3=>CK ?_) (fun h3=>CX ?_)
 ·obtain⟨o,ho⟩:∃o,rxs[k]?=some o:=⟨_,GE yd⟩
  have hoo:=hof o (ME ho)
  have hcell:fc[o]?=some (.int .i64 (numF f o)):=by rw[←hfc];exact cell_num f _ hoo
  obtain⟨tb,tof,htb,hta,hrd⟩:=RL.Ok.ld (t:=ipT) (k:=k) (x:=o) rok ho (pfC_len b o)
  dsimp only at hta
  subst hta
  refine zov ?_
  refine VG (VO.load rfl rfl ((hrd 0 rfl).2 _ 0 _ rfl rfl) ?_)
  refine xjp ?_
  refine VG (VO.ld 1 rfl rfl rfl hcell ?_)
  refine VG (VO.buildSlice (n:=1) (pv:=[(0,.int .i64 (numF f o))]) (flat inC [numF f o]) rfl rfl rfl rfl yo rfl fun sb=>?_)
  refine VG (VV (fun Fr w hF hw hS=>within_spec Fr w (ns:=[numF f o]) (rwI (hS.blk 0 rfl)) (Nat.le_of_ble_eq_true rfl)) rfl ?_)
  refine xjp ?_
  have e:[numF f o].all inN=inN (numF f o):=by simp
  refine VC.condN rfl (fun h4=>?_) (fun h4=>CK ?_)
  ·rw[e] at h4
   refine xjp ?_
   exact CR (Ret.tmp 2 rfl rfl Imp.nil.ent ⟨by rw[hM,List.all_eq_false.2 ⟨o,ME ho,by rw[h4];decide⟩];rfl,rfl⟩)
  rw[e] at h4
  refine zom ?_
  refine⟨k+1,⟨by omega,?_⟩,by dsimp only;omega,SC rfl (SC rfl (SC rfl (Sub.int rfl yd (SN _)))),(pkZ [1,1]).ent⟩
  rw[List.take_add_one,ho,List.all_append,hall]
  simp[h4]
 rw[List.take_of_length_le yd] at hall
 rw[hall,Bool.true_and] at hM
 clear rok hall hk h3 hol hof hos
 rw[hM]
 unfold mayB
 refine xjp ?_
 refine VG (VO.ld 1 rfl rfl rfl hkd ?_)
 refine xjp ?_
 refine CE rfl (fun k1=>?_) (fun k1=>?_)
 ·rw[if_pos k1]
  refine xjp ?_
  refine VG (VL 1 f.op.cells rfl rfl rfl hop ?_)
  refine VG (VV (fun Fr w hF hw hS=>Api.check_spec Fr w f.op) rfl ?_)
  refine xjp ?_
  exact xec
 rw[if_neg k1]
 refine xjp ?_
 refine CE rfl (fun k2=>?_) (fun k2=>?_)
 ·rw[if_pos k2]
  refine xjp ?_
  refine VG (VL 1 (resV f.res) rfl rfl rfl ycb ?_)
  refine VG (VO.alloc rfl fun rb2=>?_)
  refine xmh ?_
  refine xdf ?_
  by_cases g1:1≤f.res.code
  rotate_left
  ·refine VG (VY 43 false rfl (DF g1) ?_)
   refine xjq ?_
   refine VG (VY 48 false rfl rfl ?_)
   refine xjq ?_
   refine xgn ?_
   refine xjq ?_
   exact CR (Ret.tmp 2 rfl rfl Imp.nil.ent ⟨by rw[DF g1];rfl,rfl⟩)
  refine VG (VY 43 true rfl (DT g1) ?_)
  refine xdn ?_
  by_cases g2:f.res.code≤3
  rotate_left
  ·refine VG (VY 48 false rfl (DF g2) ?_)
   refine xjq ?_
   refine xgn ?_
   refine xjq ?_
   exact CR (Ret.tmp 2 rfl rfl Imp.nil.ent ⟨by rw[DF g2,Bool.and_false];rfl,rfl⟩)
  refine VG (VY 48 true rfl (DT g2) ?_)
  refine xdn ?_
  by_cases g3:f.res.value.size≤64
  rotate_left
  ·refine VG (VY 54 false rfl (DF yd) ?_)
   refine xjq ?_
   exact CR (Ret.tmp 2 rfl rfl Imp.nil.ent ⟨by rw[DF g3,Bool.and_false];rfl,rfl⟩)
  refine VG (VY 54 true rfl (DT yd) ?_)
  refine xdn ?_
  refine VG (VO.buildSlice (n:=2) (pv:=[(0,.int .i64 f.res.version),(1,.int .i64 f.res.at_)]) (flat inC [f.res.version,f.res.at_]) rfl rfl rfl rfl yo rfl fun sb=>?_)
  refine VG (VV (fun Fr w hF hw hS=>within_spec Fr w (ns:=[f.res.version,f.res.at_]) (rwI (hS.blk 0 rfl)) (Nat.le_of_ble_eq_true rfl)) rfl ?_)
  refine xjq ?_
  exact CR (Ret.tmp 2 rfl rfl Imp.nil.ent ⟨by rw[DT g1,DT g2,DT g3];simp,rfl⟩)
 rw[if_neg k2]
 refine xjp ?_
 refine CE rfl (fun k4=>?_) (fun k4=>?_)
 ·rw[if_pos k4]
  refine xjp ?_
  refine VG (VL 1 (entV f.entry) rfl rfl rfl ycb ?_)
  refine VG (VO.alloc rfl fun eb=>?_)
  refine xmi ?_
  refine xdf ?_
  refine VG (VO.buildSlice (n:=3) (pv:=[(0,.int .i64 f.entry.index),(1,.int .i64 f.entry.client),(2,.int .i64 f.entry.seq)]) (flat inC [f.entry.index,f.entry.client,f.entry.seq]) rfl rfl rfl rfl yo rfl fun sb=>?_)
  refine VG (VV (fun Fr w hF hw hS=>within_spec Fr w (ns:=[f.entry.index,f.entry.client,f.entry.seq]) (rwI (hS.blk 0 rfl)) (Nat.le_of_ble_eq_true rfl)) rfl ?_)
  have e3:[f.entry.index,f.entry.client,f.entry.seq].all inN=(inN f.entry.index&&(inN f.entry.client&&inN f.entry.seq)):=by simp
  rw[e3]
  generalize (inN f.entry.index&&(inN f.entry.client&&inN f.entry.seq))=x
  refine xjq ?_
  cases x with
  | false=>
   refine VG (VY 74 false rfl rfl ?_)
   refine xjq ?_
   exact xec
  | true=>
  refine VG (VY 74 true rfl rfl ?_)
  refine xjq ?_
  refine VG (VL 1 f.entry.op.cells rfl rfl rfl rfl ?_)
  refine VG (VV (fun Fr w hF hw hS=>Api.check_spec Fr w f.entry.op) rfl ?_)
  refine xjq ?_
  exact xec
 rw[if_neg k4]
 refine xjp ?_
 refine CE rfl (fun k8=>?_) (fun k8=>CK ?_)
 ·rw[if_pos k8]
  refine xjp ?_
  refine VG (VL 1 (ChM.cells ⟨f.cepoch,ms,f.drain⟩ a cap) rfl rfl rfl hch ?_)
  refine VG (VV (fun Fr w hF hw hS=>Ch.check_spec Fr w (c:=⟨f.cepoch,ms,f.drain⟩) (h.of hF hw) ybe) rfl ?_)
  refine xjp ?_
  exact xec
 rw[if_neg k8]
 refine xjp ?_
 exact xec
end Cl
namespace Cl
open Go Vg T Api Ch
attribute [local irreducible] VO VC VA
theorem may_beh{f:FrameM}{ms:List MemM}(h:mayM f ms=true):mayB f ms=true:=by
 unfold mayM at h
 simp only[Bool.and_eq_true] at h
 exact h.2.2
theorem may_1{f:FrameM}{ms:List MemM}(h:mayM f ms=true)(k:f.kind=1):opCheck f.op=0:=by
 have:=may_beh h
 rw[mayB,if_pos k] at this
 exact of_decide_eq_true this
theorem may_2{f:FrameM}{ms:List MemM}(h:mayM f ms=true)(k:f.kind=2):f.res.value.size≤64:=by
 have:=may_beh h
 rw[mayB,if_neg yd,if_pos k] at this
 simp only[Bool.and_eq_true,decide_eq_true_eq] at this
 omega
theorem may_4{f:FrameM}{ms:List MemM}(h:mayM f ms=true)(k:f.kind=4):opCheck f.entry.op=0∧inN f.entry.index=true∧inN f.entry.client=true∧inN f.entry.seq=true:=by
 have:=may_beh h
 rw[mayB,if_neg yd,if_neg yd,if_pos k] at this
 simp only[Bool.and_eq_true,decide_eq_true_eq] at this
 exact⟨this.2,this.1.1,this.1.2.1,this.1.2.2⟩
theorem may_8{f:FrameM}{ms:List MemM}(h:mayM f ms=true)(k:f.kind=8):chE ⟨f.cepoch,ms,f.drain⟩=0:=by
 have:=may_beh h
 rw[mayB,if_neg yd,if_neg yd,if_neg yd,if_pos k] at this
 exact of_decide_eq_true this
theorem beh_len{f:FrameM}{ms:List MemM}(h:mayM f ms=true):(behB f ms).length≤200:=by
 unfold behB
 split
 ·rename_i k
  have:=opB_len (may_1 h k);omega
 split
 ·rename_i k
  have:=may_2 h k
  have a:=intB_len f.res.code
  have b:=textB_len (sB f.res.value)
  have c:=intB_len f.res.version
  have d:=intB_len f.res.at_
  rw[sB_len] at b
  simp only[List.length_append];omega
 split
 ·rename_i k
  have:=opB_len (may_4 h k).1
  have a:=intB_len f.entry.index
  have b:=intB_len f.entry.client
  have c:=intB_len f.entry.seq
  simp only[List.length_append];omega
 split
 ·rename_i k
  have:=chB_len (may_8 h k);omega
 ·exact Nat.zero_le _
theorem behind_spec{f:FrameM}{a:Option Addr}{cap:Nat}{ms:List MemM}(h:RwIn memC 2 Fr w a ms)(hl:ms.length≤1000000)(hm:mayM f ms=true):Tri Tryz.prog 157 [.agg (f.cells (a,ms.length,cap)).toArray] Fr w [] (fun v L=>v=.string (bT (behB f ms))∧L=[]):=by
 generalize hfc:f.cells (a,ms.length,cap)=fc
 have hch:(fc.drop 23).take 3=ChM.cells ⟨f.cepoch,ms,f.drain⟩ a cap:=by rw[←hfc];rfl
 have hop:(fc.drop 7).take 4=f.op.cells:=by rw[←hfc];rfl
 have hkd:fc[0]?=some (.int .i64 f.kind):=by rw[←hfc];rfl
 refine TF 66 Tryz.func157 rfl ym tabOk rfl rfl ?_
 refine CS (CG (VG (VB (vs:=fc) rfl fun b=>VG (VN ?_))))
 refine CS (CS (CG (VG (VO.ld 0 rfl rfl rfl hkd (VG (VN ?_))))))
 refine VC.meetS (σ:=Unit) (fun _=>[(2,.string (bT (behB f ms)))]) (fun _=>[]) (fun _=>True) ?_ ?_
 rotate_left
 ·rintro⟨⟩ _
  refine xjp ?_
  exact xec
 unfold behB
 refine xjp ?_
 refine CE rfl (fun k1=>?_) (fun k1=>?_)
 ·have ho:=may_1 hm k1
  rw[if_pos k1]
  refine xjp ?_
  refine VG (VL 0 f.op.cells rfl rfl rfl hop ?_)
  refine VG (VV (fun Fr w hF hw hS=>oput_spec Fr w f.op) rfl ?_)
  rw[if_pos ho]
  refine xjp ?_
  exact xmj
 rw[if_neg k1]
 refine xjp ?_
 refine CE rfl (fun k2=>?_) (fun k2=>?_)
 ·have hv:=may_2 hm k2
  have l1:=intB_len f.res.code
  have l2:=textB_len (sB f.res.value)
  have l3:=intB_len f.res.version
  have l4:=intB_len f.res.at_
  rw[sB_len] at l2
  rw[if_pos k2]
  refine xjp ?_
  refine VG (VL 0 (resV f.res) rfl rfl rfl ycb ?_)
  refine VG (VO.alloc rfl fun rb=>?_)
  refine xmh ?_
  refine xjp ?_
  refine CD (ts 0 2 (ts 3 2 (ts 7 2 (ts 11 2 (.only 2 (.only 5 (.take 6 (.only 9 (.take 10 (.only 13 (ts 14 2 .nil))))))))))) ym yr ?_
  refine xeh ?_
  refine AG (AR (fun Fr w hF hs hS=>int_spec Fr w f.res.code) rfl rfl yu ?_)
  refine AG (AR (fun Fr w hF hs hS=>text_spec Fr w f.res.value yd) rfl rfl yu ?_)
  refine xkd ?_
  refine AG (AR (fun Fr w hF hs hS=>int_spec Fr w f.res.version) rfl rfl yu ?_)
  refine AG (AI rfl (light_cat rfl rfl ycc) ?_)
  refine AG (AR (fun Fr w hF hs hS=>int_spec Fr w f.res.at_) rfl rfl yu ?_)
  refine AG (AI rfl (light_cat rfl rfl ycd) ?_)
  rw[←bT_app,←bT_app,←bT_app]
  refine xeh ?_
  exact xmj
 rw[if_neg k2]
 refine xjp ?_
 refine CE rfl (fun k4=>?_) (fun k4=>?_)
 ·have ho:=(may_4 hm k4).1
  have l1:=intB_len f.entry.index
  have l2:=intB_len f.entry.client
  have l3:=intB_len f.entry.seq
  have l4:=opB_len ho
  rw[if_pos k4]
  refine xjp ?_
  refine VG (VL 0 (entV f.entry) rfl rfl rfl ycb ?_)
  refine VG (VO.alloc rfl fun eb=>?_)
  refine xmi ?_
  refine xjp ?_
  refine VG (VL 0 f.entry.op.cells rfl rfl rfl rfl ?_)
  refine VG (VV (fun Fr w hF hw hS=>oput_spec Fr w f.entry.op) rfl ?_)
  rw[if_pos ho]
  refine xjp ?_
  refine CD (ts 0 2 (ts 3 2 (ts 7 2 (.take 11 (.only 2 (.only 5 (.take 6 (.only 9 (.take 10 (ts 12 2 .nil)))))))))) ym yr ?_
  refine xeh ?_
  refine AG (AR (fun Fr w hF hs hS=>int_spec Fr w f.entry.index) rfl rfl yu ?_)
  refine AG (AR (fun Fr w hF hs hS=>int_spec Fr w f.entry.client) rfl rfl yu ?_)
  refine xkd ?_
  refine AG (AR (fun Fr w hF hs hS=>int_spec Fr w f.entry.seq) rfl rfl yu ?_)
  refine AG (AI rfl (light_cat rfl rfl ycc) ?_)
  refine AG (AI rfl (light_cat rfl rfl ycd) ?_)
  rw[←bT_app,←bT_app,←bT_app]
  refine xeh ?_
  exact xmj
 rw[if_neg k4]
 refine xjp ?_
 refine CE rfl (fun k8=>?_) (fun k8=>CK ?_)
 ·have hc:=may_8 hm k8
  rw[if_pos k8]
  refine xjp ?_
  refine VG (VL 0 (ChM.cells ⟨f.cepoch,ms,f.drain⟩ a cap) rfl rfl rfl hch ?_)
  refine VG (VV (fun Fr w hF hw hS=>cput_spec Fr w (c:=⟨f.cepoch,ms,f.drain⟩) (h.of hF hw) hl) rfl ?_)
  rw[if_pos hc]
  refine xjp ?_
  exact xmj
 rw[if_neg k8]
 exact xmj
end Cl
namespace Cl
open Go Vg T Api Ch
attribute [local irreducible] VO VC VA
def fpR(o:Option Bs)(v:Value):Prop:=match o with
 | some t=>v=.tuple #[.string (bT t),.int .i64 0]
 | none=>∃e,e≠0∧v=.tuple #[.string (bT []),.int .i64 e]
theorem offs_bytes(f:FrameM):∀os:List Nat,(os.flatMap (fun o=>intB (numF f o))).length≤9*os.length
 | []=>NR _
 | o::os=>by
  have:=intB_len (numF f o)
  have:=offs_bytes f os
  rw[List.flatMap_cons,List.length_append,List.length_cons];omega
theorem fput_spec{f:FrameM}{a:Option Addr}{cap:Nat}{ms:List MemM}(h:RwIn memC 2 Fr w a ms)(hl:ms.length≤1000000):Tri Tryz.prog 110 [.agg (f.cells (a,ms.length,cap)).toArray] Fr w [] (fun v L=>fpR (putM f ms) v∧L=[]):=by
 refine TF 34 Tryz.func110 rfl ym tabOk rfl rfl ?_
 refine CS (CG (VG (VB (vs:=f.cells (a,ms.length,cap)) rfl fun b=>VG (VN ?_))))
 refine xjp ?_
 refine VG (VL 0 (f.cells (a,ms.length,cap)) rfl rfl rfl rfl ?_)
 refine VG (VV (fun Fr w hF hw hS=>may_spec Fr w (h.of hF hw) hl) rfl ?_)
 refine xjp ?_
 refine VC.condN rfl (fun hm=>?_) (fun hm=>CK ?_)
 ·refine xjp ?_
  exact CR (Ret.tmp2 2 3 rfl rfl rfl Imp.nil.ent ⟨by rw[putM,if_neg (by rw[hm];decide)];exact⟨2,by decide,rfl⟩,rfl⟩)
 have hP:putM f ms=if 512<(putB f ms).length then none else some (putB f ms):=by rw[putM,if_pos hm]
 have lb:=beh_len hm
 have lk:=intB_len f.kind
 refine xdf ?_
 refine VG (VV (fun Fr w hF hw hS=>int_spec Fr w f.kind) rfl ?_)
 refine xjp ?_
 refine VG (VK (Lc:=[]) (fun Fr w hF hw hS=>numbers_spec Fr w (fb:=b) (f:=f) (g:=(a,ms.length,cap)) (hS.blk 0 rfl)) rfl rfl ?_)
 rintro _ _ ⟨na,nc,rfl,rfl⟩
 refine xjp ?_
 have hpb:putB f ms=(intB f.kind++(offs f.kind).flatMap (fun o=>intB (numF f o)))++behB f ms:=rfl
 generalize hos:offs f.kind=os at hpb
 have hof:∀o∈os,isOff o=true:=fun o ho=>offs_is f.kind o (by rw[hos];exact ho)
 have hol:os.length≤6:=by rw[←hos];exact offs_len _
 refine VC.opn 0 rfl (HOpn.rl ipT na nc os (pfC_len b)) ?_
 rintro⟨ra,rc,rb,rcs,rxs⟩ ⟨rok,rv,rx⟩
 dsimp only at rx
 subst rx
 injection rv with e1 _ e3
 subst e1 e3
 refine VC.loop (σ:=Nat) (fun k=>[(1,pV b),(13,.slice ra rxs.length rc),(14,.int .i64 rxs.length),(15,.int .i64 (k:Int)),(4,.string (bT (intB f.kind++(rxs.take k).flatMap (fun o=>intB (numF f o)))))]) (fun _=>[RL.h ipT ⟨ra,rc,rb,rcs,rxs⟩,pt b (f.cells (a,ms.length,cap)) frmT]) (fun k=>k≤rxs.length) (fun k=>rxs.length-k) 0
  (Nat.zero_le _) (SC rfl (SC rfl (SC rfl (SC rfl (SC ybk (SN _)))))) ER ?_
 rintro k hk
 refine xjp ?_
 refine CP (p:=(k:Int)<rxs.length) rfl (fun h3=>CK ?_) (fun h3=>CX ?_)
 ·obtain⟨o,ho⟩:∃o,rxs[k]?=some o:=⟨_,GE yd⟩
  have hoo:=hof o (ME ho)
  have lo:=intB_len (numF f o)
  have lt:=offs_bytes f (rxs.take k)
  rw[List.length_take] at lt
  have e:(rxs.take (k+1)).flatMap (fun o=>intB (numF f o))=(rxs.take k).flatMap (fun o=>intB (numF f o))++intB (numF f o):=by rw[List.take_add_one,ho,List.flatMap_append];simp
  obtain⟨tb,tof,htb,hta,hrd⟩:=RL.Ok.ld (t:=ipT) (k:=k) (x:=o) rok ho (pfC_len b o)
  dsimp only at hta
  subst hta
  refine zov ?_
  refine VG (VO.load rfl rfl ((hrd 0 rfl).2 _ 0 _ rfl rfl) ?_)
  refine xjp ?_
  refine VG (VO.ld 1 rfl rfl rfl (cell_num f _ hoo) ?_)
  refine VG (VV (fun Fr w hF hw hS=>int_spec Fr w (numF f o)) rfl ?_)
  refine xke ?_
  rw[←bT_app]
  refine zom ?_
  exact⟨k+1,by omega,by dsimp only;omega,SC rfl (SC rfl (SC rfl (Sub.int rfl yd (SC ybl (SN _))))),ER⟩
 obtain rfl:k=rxs.length:=by omega
 have lt:=offs_bytes f rxs
 rw[List.take_length]
 refine xjp ?_
 refine VG (VL 1 (f.cells (a,ms.length,cap)) rfl rfl rfl rfl ?_)
 refine VG (VV (fun Fr w hF hw hS=>behind_spec Fr w (h.of hF hw) hl hm) rfl ?_)
 refine xke ?_
 rw[←bT_app,←hpb]
 refine xjp ?_
 refine CP (p:=(512:Int)<(bT (putB f ms)).size) rfl (fun h4=>?_) (fun h4=>CK ?_)
 ·rw[bT_size] at h4
  refine xjp ?_
  exact CR (Ret.tmp2 2 3 rfl rfl rfl Imp.nil.ent ⟨by rw[hP,if_pos yd];exact⟨3,by decide,rfl⟩,rfl⟩)
 rw[bT_size] at h4
 refine xjp ?_
 exact CR (Ret.tmp2 2 3 rfl rfl rfl Imp.nil.ent ⟨by rw[hP,if_neg yd];exact rfl,rfl⟩)
def setAll:List Value→List Nat→List Int→List Value
 | cs,o::os,k::ks=>setAll (cs.set o (.int .i64 k)) os ks
 | cs,_,_=>cs
theorem setAll_snoc{o:Nat}{x:Int}:∀{os:List Nat} {ks:List Int} {cs:List Value},os.length=ks.length→setAll cs (os ++ [o]) (ks ++ [x])=(setAll cs os ks).set o (.int .i64 x)
 | [],[],cs,_=>rfl
 | a::os,b::ks,cs,h=>setAll_snoc (os:=os) (ks:=ks) yc
 | [],_::_,_,h=>by simp at h
 | _::_,[],_,h=>by simp at h
def isI(v:Option Value):Prop:=∃n,v=some (.int .i64 n)
theorem setAll_int{o:Nat}:∀{os:List Nat} {ks:List Int} {cs:List Value},isI cs[o]?→isI (setAll cs os ks)[o]?
 | a::os,b::ks,cs,h=>setAll_int (os:=os) (ks:=ks) (by
   by_cases e:a=o
   ·subst e
    obtain⟨n,hn⟩:=h
    exact⟨b,by rw[List.getElem?_set_self (List.getElem?_eq_some_iff.1 hn).1]⟩
   ·rw[List.getElem?_set_ne e];exact h)
 | [],_,_,h=>h
 | _::_,[],_,h=>h
theorem set_self{cs:List Value}{o:Nat}{v:Value}(h:cs[o]?=some v):cs.set o v=cs:=by
 refine List.ext_getElem? fun j=>?_
 by_cases e:o=j
 ·subst e;rw[List.getElem?_set_self (List.getElem?_eq_some_iff.1 h).1,h]
 ·rw[List.getElem?_set_ne e]
structure NI(os:List Nat)(s:Bs)(k:Nat)(x:List Int×Bs×Bool):Prop where
 le:k≤os.length
 ks:x.1.length=k
 len:x.2.1.length≤s.length
 t:x.2.2=true→intsB k s=some (x.1,x.2.1)
 f:x.2.2=false→intsB os.length s=none
def niR(fb:Nat)(T:TypeId)(cs:List Value)(os:List Nat)(s:Bs)(v:Value)(L:List HP):Prop:=
 ∃x:List Int×Bs×Bool,NI os s os.length x∧v=.tuple #[.string (bT x.2.1),.bool x.2.2]∧L=[pt fb (setAll cs os x.1) T]
theorem ints_spec{s:Bs}(hs:s.length≤1000000){fb:Nat}{T:TypeId}{cs:List Value}{os:List Nat}(hol:os.length≤1000)(ho:∀o∈os,isI cs[o]?){a:Option Addr}{c:Nat}(h:RwIn (pfC fb) 1 Fr w a os):
  Tri Tryz.prog 182 [.string (bT s),.slice a os.length c] Fr w [pt fb cs T] (niR fb T cs os s):=by
 refine TF 27 Tryz.func182 rfl ym tabOk rfl rfl ?_
 refine xjp ?_
 refine VC.loop (σ:=Nat×List Int×Bs×Bool) (fun x=>[(9,.slice a os.length c),(10,.int .i64 os.length),(11,.int .i64 (x.1:Int)),(4,.string (bT x.2.2.1)),(5,.bool x.2.2.2)]) (fun x=>[pt fb (setAll cs (os.take x.1) x.2.1) T]) (fun x=>NI os s x.1 x.2) (fun x=>os.length-x.1) (0,[],s,true)
  ⟨Nat.zero_le _,rfl,NR _,fun _=>rfl,fun h=>(Bool.false_ne_true h.symm).elim⟩ sbZ (by rw[List.take_zero];exact ER) ?_
 rintro⟨k,ks,r,ok⟩ hI
 have hk:=hI.le
 have hkl:=hI.ks
 have hrl:=hI.len
 dsimp only at hk hkl hrl ⊢
 refine xjp ?_
 refine CP (p:=(k:Int)<os.length) rfl (fun h3=>CK ?_) (fun h3=>CX ?_)
 rotate_left
 ·obtain rfl:k=os.length:=by omega
  rw[List.take_length]
  refine xjp ?_
  exact CR (Ret.tmp2 4 5 rfl rfl rfl ER ⟨(ks,r,ok),hI,rfl,rfl⟩)
 obtain⟨o,hoo⟩:∃o,os[k]?=some o:=⟨_,GE yd⟩
 obtain⟨xb,xo,hxa,ra,rc⟩:=RwIn.rd (X:=⟨Tryz.prog,tab,tabOk,27,Fr,w⟩) h hoo
 subst hxa
 obtain⟨n0,hn0⟩:=setAll_int (os:=os.take k) (ks:=ks) (ho o (ME hoo))
 have hlt:=(List.getElem?_eq_some_iff.1 hn0).1
 have htk:os.take (k+1)=os.take k ++ [o]:=by rw[List.take_add_one,hoo];rfl
 have hsn:∀x:Int,setAll cs (os.take (k+1)) (ks ++ [x])=(setAll cs (os.take k) ks).set o (.int .i64 x):=fun x=>by rw[htk,setAll_snoc yak]
 refine CS (VC.meetS (σ:=List Int×Bs×Bool) (fun x=>[(9,.slice (some ⟨xb,xo,none⟩) os.length c),(10,.int .i64 os.length),(11,.int .i64 (k:Int)),(4,.string (bT x.2.1)),(5,.bool x.2.2)]) (fun x=>[pt fb (setAll cs (os.take (k+1)) x.1) T]) (fun x=>NI os s (k+1) x) ?_ ?_)
 ·refine zov ?_
  refine xeb ?_
  refine xjp ?_
  refine CC rfl (fun h=>?_) (fun h=>CK ?_)
  ·subst h
   have ht:=hI.t rfl
   dsimp only at ht
   obtain⟨x,q,ok,hv,hql,hk1,hk2⟩:=un_get r
   refine xjp ?_
   refine VG (VV (fun Fr w hF hw _=>hv▸unint_spec Fr w r yd) rfl ?_)
   refine xjp ?_
   refine VG (VO.st 0 (cs':=(setAll cs (os.take k) ks).set o (.int .i64 x)) rfl rfl rfl rfl hlt rfl rfl ?_)
   refine xjp ?_
   refine⟨(ks ++ [x],q,ok),⟨by omega,by simp[hkl],by dsimp only;omega,fun h=>?_,fun h=>?_⟩,sbZ,by dsimp only;rw[hsn];exact ER⟩
   ·rw[intsB_snoc,ht];simp[hk1 h]
   ·have:intsB (k+1) s=none:=by rw[intsB_snoc,ht];simp[hk2 h]
    have:=intsB_none this (os.length-(k+1))
    rwa[show k+1+(os.length-(k+1))=os.length from by omega] at this
  ·subst h
   exact⟨(ks ++ [n0],r,false),⟨by omega,by simp[hkl],hrl,fun h=>(Bool.false_ne_true h).elim,fun _=>hI.f rfl⟩,sbZ,by dsimp only;rw[hsn,set_self hn0];exact ER⟩
 rintro⟨ks2,r2,ok2⟩ hI2
 refine zom ?_
 exact⟨(k+1,ks2,r2,ok2),hI2,by dsimp only;omega,SC rfl (SC rfl (Sub.int rfl ybb sbZ)),ER⟩
end Cl
namespace Cl
open Go Vg T Api Ch
attribute [local irreducible] VO VC VA
def frOk(fb:Nat)(f:FrameM)(ms:List MemM)(L:List HP):Prop:=∃a cap,L=[pt fb (f.cells (a,ms.length,cap)) frmT,slH memT 2 a ms.length cap (flat memC ms)]
def frR(fb:Nat)(o:Option (FrameM×List MemM))(v:Value)(L:List HP):Prop:=match o with
 | some x=>v=.bool true∧frOk fb x.1 x.2 L
 | none=>v=.bool false∧L=[]
abbrev RdS:=Int×Bs×Bool×List HP
structure RdE(fb:Nat)(o:Option (FrameM×List MemM))(x:RdS):Prop where
 yes:x.2.2.1=true→x.1=0→x.2.1=[]→∃y,o=some y∧frOk fb y.1 y.2 x.2.2.2
 no:¬(x.2.2.1=true∧x.1=0∧x.2.1=[])→o=none
theorem RdE.ok{fb:Nat}{o:Option (FrameM×List MemM)}{f:FrameM}{ms:List MemM}{L:List HP}(h:o=some (f,ms))(hL:frOk fb f ms L):RdE fb o (0,[],true,L):=⟨fun _ _ _=>⟨_,h,hL⟩,fun k=>absurd ⟨rfl,rfl,rfl⟩ k⟩
theorem RdE.bad{fb:Nat}{o:Option (FrameM×List MemM)}{e:Int}{r:Bs}{ok:Bool}{L:List HP}(h:o=none)(hb:¬(ok=true∧e=0∧r=[])):RdE fb o (e,r,ok,L):=⟨fun h1 h2 h3=>absurd ⟨h1,h2,h3⟩ hb,fun _=>h⟩
def mem0':MemG:=(none,0,0)
theorem frOk0{fb:Nat}{f:FrameM}:frOk fb f [] [pt fb (f.cells mem0') frmT,slH memT 2 none 0 0 (flat memC [])]:=⟨none,0,rfl⟩
theorem ent0{X:Cx}{fb:Nat}{f:FrameM}{L:List HP}(h:Imp L [pt fb (f.cells mem0') frmT]):Ent X L [pt fb (f.cells mem0') frmT,slH memT 2 none 0 0 (flat memC [])]:=
 ((h.trans (Imp.slNil Imp.refl)).trans (IP 1 rfl Imp.refl)).ent
theorem all0{cs:List Value}:∀o∈([]:List Nat),isI cs[o]?:=fun o ho=>by cases ho
theorem allC{cs:List Value}{a:Nat}{l:List Nat}(h:isI cs[a]?)(hl:∀o∈l,isI cs[o]?):∀o∈a::l,isI cs[o]?:=fun o ho=>by
 rcases List.mem_cons.1 ho with rfl | ho
 ·exact h
 ·exact hl o ho
theorem all1{cs:List Value}{a:Nat}(h:isI cs[a]?):∀o∈[a],isI cs[o]?:=allC h all0
theorem ints1{s:Bs}:intsB 1 s=(unintB s).map fun x=>([x.1],x.2):=by
 rw[intsB]
 cases unintB s with
 | none=>rfl
 | some x=>rfl
theorem rwP{Fr:Nat→Prop}{w:World}{b fb:Nat}{os:List Nat}(h:Blk Fr w b (flat (pfC fb) os)):RwIn (pfC fb) 1 Fr w (some ⟨b,0,none⟩) os:=
 RwIn.blk (off:=0) h fun i x hx=>by
  have:=flat_row (pfC_len fb) hx []
  rw[List.append_nil] at this
  rw[Nat.zero_add];exact this
theorem fread_spec{s:Bs}(hs:s.length≤1000000){fb:Nat}{f:FrameM}:Tri Tryz.prog 183 [.pointer (some ⟨fb,0,none⟩),.string (bT s)] Fr w [pt fb (f.cells mem0') frmT] (frR fb (readF f s)):=by
 refine TF 110 Tryz.func183 rfl ym tabOk rfl rfl ?_
 refine xet ?_
 refine xet ?_
 refine xet ?_
 refine CS (CS (CG (VG (VO.ld 0 rfl rfl rfl rfl (VG (VN ?_))))))
 refine VC.meetS (σ:=RdS) (fun x=>[(5,.int .i64 x.1),(6,.string (bT x.2.1)),(7,.bool x.2.2.1)]) (fun x=>x.2.2.2) (RdE fb (readF f s)) ?_ ?_
 rotate_left
 ·rintro⟨e,r,ok,L⟩ hE
  refine xjp ?_
  cases ok with
  | false=>
   refine VG (VY 102 false rfl rfl ?_)
   refine xjq ?_
   refine VG (VY 106 false rfl rfl ?_)
   refine xjq ?_
   exact CR (Ret.tmp 4 rfl rfl Imp.nil.ent (by rw[hE.no (fun h=>Bool.false_ne_true h.1)];exact⟨rfl,rfl⟩))
  | true=>
  refine VG (VY 102 true rfl rfl ?_)
  refine xjq ?_
  by_cases he:e=0
  rotate_left
  ·refine VG (VY 106 false rfl (beq_eq_false_iff_ne.2 he) ?_)
   refine xjq ?_
   exact CR (Ret.tmp 4 rfl rfl Imp.nil.ent (by rw[hE.no (fun h=>he h.2.1)];exact⟨rfl,rfl⟩))
  refine VG (VY 106 true rfl (beq_iff_eq.2 he) ?_)
  refine xjq ?_
  by_cases hr:r=[]
  rotate_left
  ·exact CR (Ret.bool (b:=false) 4 rfl rfl (by rw[show(ByteArray.mk #[])=bT [] from rfl,bT_eq];exact DF hr) Imp.nil.ent (by rw[hE.no (fun h=>hr h.2.2)];exact⟨rfl,rfl⟩))
  obtain⟨y,hy,hL⟩:=hE.yes rfl he hr
  exact CR (Ret.bool (b:=true) 4 rfl rfl (by rw[show(ByteArray.mk #[])=bT [] from rfl,bT_eq];exact DT hr) ER (by rw[hy];exact⟨rfl,hL⟩))
 have nf:∀{e:Int} {r:Bs},¬(false=true∧e=0∧r=[]):=fun h=>Bool.false_ne_true h.1
 have n10:∀{r:Bs},¬(true=true∧(10:Int)=0∧r=[]):=fun h=>absurd h.2.1 yo
 unfold readF
 refine xjp ?_
 refine CE rfl (fun k1=>?_) (fun k1=>?_)
 ·rw[if_pos k1]
  refine xjp ?_
  cases hg:getO s with
  | none=>
   refine VG (VV (u:=goV none) (fun Fr w hF hw _=>hg▸oget_spec Fr w s hs) rfl ?_)
   refine xjq ?_
   refine VG (VT (vs:=OpM.cells ⟨0,bT [],bT [],0⟩) (cs':=({ f with op:=⟨0,bT [],bT [],0⟩ }:FrameM).cells mem0') 0 rfl rfl rfl rfl (by show 7+4≤29;omega) rfl rfl rfl ?_)
   refine xjq ?_
   exact xmk
  | some o=>
   refine VG (VV (u:=goV (some o)) (fun Fr w hF hw _=>hg▸oget_spec Fr w s hs) rfl ?_)
   refine xjq ?_
   refine VG (VT (vs:=o.cells) (cs':=({ f with op:=o }:FrameM).cells mem0') 0 rfl rfl rfl rfl (by show 7+4≤29;omega) rfl rfl rfl ?_)
   refine xjq ?_
   exact⟨(0,[],true,_),RdE.ok rfl frOk0,sbZ,ent0 Imp.refl⟩
 rw[if_neg k1]
 refine xjp ?_
 refine CE rfl (fun k2=>?_) (fun k2=>?_)
 ·rw[if_pos k2]
  refine xjp ?_
  refine VG (VO.buildSlice (n:=1) (pv:=[(0,.pointer (some ⟨fb,11,none⟩))]) (flat (pfC fb) [11]) rfl rfl rfl rfl yo rfl fun sb=>?_)
  refine VO.ent (L':=[pt fb (f.cells mem0') frmT] ++ [pt sb (flat (pfC fb) [11]) ipT]) (pkZ [1,0]).ent ?_
  refine VG (VK (Lc:=[pt fb (f.cells mem0') frmT]) (fun Fr w hF hw hS=>ints_spec Fr w (os:=[11]) hs yo (all1 ⟨_,rfl⟩) (rwP (hS.blk 0 rfl))) rfl rfl ?_)
  rintro _ _ ⟨⟨ks,r,ok⟩,hI,rfl,rfl⟩
  have hl:=hI.len
  have h1:=hI.ks
  have ht:=hI.t
  have hf:=hI.f
  dsimp only at hl h1 ht hf
  obtain⟨code,rfl⟩:∃x,ks=[x]:=by
   match ks,h1 with
   | [x],_=>exact⟨x,rfl⟩
  show VO _ _ _ _ _ [pt fb (({ f with res:={ f.res with code:=code } }:FrameM).cells mem0') frmT,pt sb (flat (pfC fb) [11]) ipT] _
  rw[show([11]:List Nat).length=1 from rfl,ints1] at ht hf
  refine xjq ?_
  cases ok with
  | false=>
   have hu:unintB s=none:=by simpa using hf rfl
   refine xdy ?_
   refine zot ?_
   exact⟨(0,r,false,[]),RdE.bad (by rw[hu]) nf,sbZ,Imp.nil.ent⟩
  | true=>
  have hu:unintB s=some (code,r):=by
   have:=ht rfl
   cases hx:unintB s with
   | none=>rw[hx] at this;cases this
   | some x=>rw[hx] at this;simp at this;rw[←this.1,←this.2]
  refine xdz ?_
  obtain⟨val,q,ok2,hv,hql,hc1,hc2⟩:=ct_get r
  refine xjq ?_
  refine xkf ?_
  refine xjq ?_
  refine VG (VO.st 0 (cs':=({ f with res:={ f.res with code:=code,value:=bT val } }:FrameM).cells mem0') rfl rfl rfl rfl (by show 12<29;omega) rfl rfl ?_)
  refine xjq ?_
  rw[hu]
  dsimp only
  cases ok2 with
  | false=>
   refine xdy ?_
   exact⟨(0,q,false,[]),RdE.bad (by rw[hc2 rfl]) nf,sbZ,Imp.nil.ent⟩
  | true=>
  rw[hc1 rfl]
  dsimp only
  refine xdz ?_
  refine xjp ?_
  refine CD (ts 0 9 (.only 9 (.only 10 (ts 11 5 .nil)))) ym yr ?_
  refine xjs ?_
  refine AG (AO (OpT.buildSlice (n:=2) (pv:=[(0,.pointer (some ⟨fb,13,none⟩)),(1,.pointer (some ⟨fb,14,none⟩))]) (cells:=flat (pfC fb) [13,14]) rfl rfl rfl rfl yo rfl) rfl (fun v L' g=>by obtain⟨b,rfl,rfl⟩:=g;exact yu) ?_)
  rintro _ _ ⟨sc,rfl,rfl⟩
  refine AG (AO (OC (Lc:=[pt fb (({ f with res:={ f.res with code:=code,value:=bT val } }:FrameM).cells mem0') frmT]) (Lr:=[pt sc (flat (pfC fb) [13,14]) ipT,pt sb (flat (pfC fb) [11]) ipT]) rfl (.swap _ _ _) (fun Fr w hF hw hS=>ints_spec Fr w (s:=q) (os:=[13,14]) yd (Nat.le_of_ble_eq_true rfl) (allC ⟨_,rfl⟩ (all1 ⟨_,rfl⟩)) (rwP (hS.blk 0 rfl)))) rfl (fun v L' g=>by obtain⟨_,⟨x,_,rfl,rfl⟩,rfl⟩:=g;exact yu) ?_)
  rintro _ _ ⟨_,⟨⟨ks,r3,ok3⟩,hI3,rfl,rfl⟩,rfl⟩
  have h3l:=hI3.len
  have h31:=hI3.ks
  have h3t:=hI3.t
  have h3f:=hI3.f
  dsimp only at h3l h31 h3t h3f
  obtain⟨ver,at_,rfl⟩:∃x y,ks=[x,y]:=by
   match ks,h31 with
   | [x,y],_=>exact⟨x,y,rfl⟩
  rw[show([13,14]:List Nat).length=1+1 from rfl,intsB_snoc,ints1] at h3t h3f
  refine xjs ?_
  cases h5:unintB q with
  | none=>
   have hko:ok3=false:=by
    cases ok3 with
    | false=>rfl
    | true=>have:=h3t rfl;rw[h5] at this;cases this
   subst hko
   exact⟨(0,r3,false,[]),RdE.bad rfl nf,sbZ,Imp.nil.ent⟩
  | some x5=>
  obtain⟨v5,q5⟩:=x5
  dsimp only
  rw[h5] at h3t h3f
  simp only[Option.map_some,Option.bind_some] at h3t h3f
  cases h6:unintB q5 with
  | none=>
   have hko:ok3=false:=by
    cases ok3 with
    | false=>rfl
    | true=>have:=h3t rfl;rw[h6] at this;cases this
   subst hko
   exact⟨(0,r3,false,[]),RdE.bad rfl nf,sbZ,Imp.nil.ent⟩
  | some x6=>
  obtain⟨v6,q6⟩:=x6
  dsimp only
  rw[h6] at h3t h3f
  simp only[Option.map_some] at h3t h3f
  have hko:ok3=true:=by
   cases ok3 with
   | true=>rfl
   | false=>have:=h3f rfl;cases this
  subst hko
  have h7:=h3t rfl
  simp only[Option.some.injEq,Prod.mk.injEq,List.cons_append,List.nil_append,List.cons.injEq,and_true] at h7
  obtain⟨⟨rfl,rfl⟩,rfl⟩:=h7
  by_cases hq:q6=[]
  ·subst hq
   exact⟨(0,[],true,_),RdE.ok (if_pos rfl) frOk0,sbZ,ent0 (IP 0 rfl Imp.nil)⟩
  ·exact⟨(0,q6,true,[]),RdE.bad (if_neg hq) (fun h=>hq h.2.2),sbZ,Imp.nil.ent⟩
 rw[if_neg k2]
 refine xjp ?_
 refine CE rfl (fun k4=>?_) (fun k4=>?_)
 ·rw[if_pos k4]
  refine xjp ?_
  refine CD (ts 0 13 (.only 13 (.only 14 (ts 15 5 .nil)))) ym yr ?_
  refine xjs ?_
  refine AG (AO (OpT.buildSlice (n:=3) (pv:=[(0,.pointer (some ⟨fb,16,none⟩)),(1,.pointer (some ⟨fb,17,none⟩)),(2,.pointer (some ⟨fb,18,none⟩))]) (cells:=flat (pfC fb) [16,17,18]) rfl rfl rfl rfl yo rfl) rfl (fun v L' g=>by obtain⟨b,rfl,rfl⟩:=g;exact yu) ?_)
  rintro _ _ ⟨sc,rfl,rfl⟩
  refine AG (AO (OC (Lc:=[pt fb (f.cells mem0') frmT]) (Lr:=[pt sc (flat (pfC fb) [16,17,18]) ipT]) rfl (.swap _ _ _) (fun Fr w hF hw hS=>ints_spec Fr w (s:=s) (os:=[16,17,18]) hs (Nat.le_of_ble_eq_true rfl) (allC ⟨_,rfl⟩ (allC ⟨_,rfl⟩ (all1 ⟨_,rfl⟩))) (rwP (hS.blk 0 rfl)))) rfl (fun v L' g=>by obtain⟨_,⟨x,_,rfl,rfl⟩,rfl⟩:=g;exact yu) ?_)
  rintro _ _ ⟨_,⟨⟨ks,r3,ok3⟩,hI3,rfl,rfl⟩,rfl⟩
  have h3l:=hI3.len
  have h31:=hI3.ks
  have h3t:=hI3.t
  have h3f:=hI3.f
  dsimp only at h3l h31 h3t h3f
  obtain⟨ix,cl,sq,rfl⟩:∃x y z,ks=[x,y,z]:=by
   match ks,h31 with
   | [x,y,z],_=>exact⟨x,y,z,rfl⟩
  rw[show([16,17,18]:List Nat).length=1+1+1 from rfl,intsB_snoc,intsB_snoc,ints1] at h3t h3f
  show VA _ _ _ _ _ _ [pt fb (({ f with entry:={ f.entry with index:=ix,client:=cl,seq:=sq } }:FrameM).cells mem0') frmT,pt sc (flat (pfC fb) [16,17,18]) ipT] _
  refine zou ?_
  cases ok3 with
  | false=>
   have hn:(match unintB s with
    | none=>none
    | some (i,r)=>match unintB r with
     | none=>none
     | some (c,r)=>match unintB r with
      | none=>none
      | some (q,r)=>match getO r with
       | none=>none
       | some o=>some (({ f with entry:=⟨i,c,q,o⟩ }:FrameM),([]:List MemM)))=none:=by
    have:=h3f rfl
    cases a1:unintB s with
    | none=>rfl
    | some x=>
     rw[a1] at this
     simp only[Option.map_some,Option.bind_some] at this
     dsimp only
     cases a2:unintB x.2 with
     | none=>rfl
     | some y=>
      rw[a2] at this
      simp only[Option.map_some,Option.bind_some] at this
      dsimp only
      cases a3:unintB y.2 with
      | none=>rfl
      | some z=>rw[a3] at this;cases this
   refine xdy ?_
   exact⟨(0,r3,false,[]),RdE.bad hn nf,sbZ,Imp.nil.ent⟩
  | true=>
  have h7:=h3t rfl
  cases a1:unintB s with
  | none=>rw[a1] at h7;cases h7
  | some x=>
  rw[a1] at h7
  simp only[Option.map_some,Option.bind_some] at h7
  obtain⟨x1,x2⟩:=x
  dsimp only at h7 ⊢
  cases a2:unintB x2 with
  | none=>rw[a2] at h7;cases h7
  | some y=>
  rw[a2] at h7
  simp only[Option.map_some,Option.bind_some] at h7
  obtain⟨y1,y2⟩:=y
  dsimp only at h7 ⊢
  cases a3:unintB y2 with
  | none=>rw[a3] at h7;cases h7
  | some z=>
  obtain⟨z1,z2⟩:=z
  rw[a3] at h7
  simp only[Option.map_some,Option.some.injEq,Prod.mk.injEq,List.cons_append,List.nil_append,List.cons.injEq,and_true] at h7
  obtain⟨⟨rfl,rfl,rfl⟩,rfl⟩:=h7
  dsimp only
  refine xdz ?_
  refine xjp ?_
  cases hg:getO z2 with
  | none=>
   refine VG (VV (u:=goV none) (fun Fr w hF hw _=>hg▸oget_spec Fr w z2 yd) rfl ?_)
   refine xjq ?_
   refine VG (VT (vs:=OpM.cells ⟨0,bT [],bT [],0⟩) (cs':=({ f with entry:=⟨x1,y1,z1,⟨0,bT [],bT [],0⟩⟩ }:FrameM).cells mem0') 0 rfl rfl rfl rfl (by show 19+4≤29;omega) rfl rfl rfl ?_)
   refine xjq ?_
   exact xmk
  | some o=>
   refine VG (VV (u:=goV (some o)) (fun Fr w hF hw _=>hg▸oget_spec Fr w z2 yd) rfl ?_)
   refine xjq ?_
   refine VG (VT (vs:=o.cells) (cs':=({ f with entry:=⟨x1,y1,z1,o⟩ }:FrameM).cells mem0') 0 rfl rfl rfl rfl (by show 19+4≤29;omega) rfl rfl rfl ?_)
   refine xjq ?_
   exact⟨(0,[],true,_),RdE.ok rfl frOk0,sbZ,ent0 (IP 0 rfl Imp.nil)⟩
 rw[if_neg k4]
 refine xjp ?_
 refine CE rfl (fun k8=>?_) (fun k8=>CK ?_)
 ·rw[if_pos k8]
  refine xjp ?_
  refine VG (VK (Lc:=[]) (fun Fr w hF hw hS=>cget_spec Fr w s hs) rfl rfl ?_)
  cases hg:getCh s with
  | none=>
   rintro _ _ ⟨rfl,rfl⟩
   refine xjq ?_
   refine VG (VT (vs:=chZc) (cs':=({ f with cepoch:=0,drain:=0 }:FrameM).cells mem0') 0 rfl rfl rfl rfl (by show 23+3≤29;omega) rfl rfl rfl ?_)
   refine xjq ?_
   exact xmk
  | some c=>
   rintro _ _ ⟨ma,mc,rfl,rfl⟩
   refine xjq ?_
   refine VG (VT (vs:=c.cells ma mc) (cs':=({ f with cepoch:=c.epoch,drain:=c.drain }:FrameM).cells (ma,c.ms.length,mc)) 1 rfl rfl rfl rfl (by show 23+3≤29;omega) rfl rfl rfl ?_)
   refine xjq ?_
   exact⟨(0,[],true,_),RdE.ok rfl ⟨ma,mc,rfl⟩,sbZ,(pkZ [1,0]).ent⟩
 rw[if_neg k8]
 by_cases hq:s=[]
 ·subst hq
  exact⟨(0,[],true,_),RdE.ok (if_pos rfl) frOk0,sbZ,ent0 Imp.refl⟩
 ·exact⟨(0,s,true,[]),RdE.bad (if_neg hq) (fun h=>hq h.2.2),sbZ,Imp.nil.ent⟩
end Cl
namespace Cl
open Go Vg T Api Ch
attribute [local irreducible] VO VC VA
theorem setF_cells(f:FrameM)(g:MemG){o:Nat}(n:Int)(h:isOff o=true):(f.cells g).set o (.int .i64 n)=(setF f o n).cells g:=by
 have hm:o∈[1,2,3,4,5,6,15,26,27,28]:=by unfold isOff at h;exact of_decide_eq_true h
 simp only[List.mem_cons,List.not_mem_nil,or_false] at hm
 rcases hm with rfl | rfl | rfl | rfl | rfl | rfl | rfl | rfl | rfl | rfl<;>rfl
theorem setFs_cells(g:MemG):∀(os:List Nat) (ks:List Int) (f:FrameM),(∀o∈os,isOff o=true)→setAll (f.cells g) os ks=(setFs f os ks).cells g
 | o::os,k::ks,f,h=>by
  show setAll ((f.cells g).set o (.int .i64 k)) os ks=(setFs (setF f o k) os ks).cells g
  rw[setF_cells f g k (h o (List.mem_cons_self ..)),setFs_cells g os ks _ fun o ho=>h o (List.mem_cons_of_mem _ ho)]
 | [],_,_,_=>rfl
 | _::_,[],_,_=>rfl
theorem getCh_ok{s:Bs}{c:ChM}(h:getCh s=some c):chE c=0:=by
 unfold getCh at h
 repeat' split at h
 all_goals first | cases h;done | skip
 all_goals simp only[Option.some.injEq] at h
 all_goals subst h
 all_goals rename_i hh
 all_goals exact hh.2
theorem readF_ms{f:FrameM}{s:Bs}{y:FrameM×List MemM}(h:readF f s=some y):y.2.length≤6:=by
 unfold readF at h
 by_cases k1:f.kind=1
 ·rw[if_pos k1] at h
  split at h
  ·cases h
  ·cases h;exact Nat.zero_le _
 rw[if_neg k1] at h
 by_cases k2:f.kind=2
 ·rw[if_pos k2] at h
  repeat' split at h
  all_goals first | (cases h;done) | (cases h;exact Nat.zero_le _)
 rw[if_neg k2] at h
 by_cases k4:f.kind=4
 ·rw[if_pos k4] at h
  repeat' split at h
  all_goals first | (cases h;done) | (cases h;exact Nat.zero_le _)
 rw[if_neg k4] at h
 by_cases k8:f.kind=8
 ·rw[if_pos k8] at h
  split at h
  ·cases h
  ·rename_i c hc
   cases h
   have:=ch_size (getCh_ok hc)
   exact this.2.1
 rw[if_neg k8] at h
 split at h
 ·cases h;exact Nat.zero_le _
 ·cases h
def fgR(o:Option (FrameM×List MemM))(v:Value)(L:List HP):Prop:=match o with
 | some x=>∃a cap,v=.tuple #[.agg (x.1.cells (a,x.2.length,cap)).toArray,.int .i64 0]∧L=[slH memT 2 a x.2.length cap (flat memC x.2)]
 | none=>v=.tuple #[.agg (FrameM.zero.cells mem0').toArray,.int .i64 10]∧L=[]
theorem fget_spec{s:Bs}:Tri Tryz.prog 128 [.string (bT s)] Fr w [] (fgR (getM s)):=by
 refine TF 39 Tryz.func128 rfl ym tabOk rfl rfl ?_
 refine CS (CG (VG (VO.alloc rfl fun b2=>?_)))
 refine xjp ?_
 refine CP (p:=(512:Int)<(bT s).size) rfl (fun h1=>?_) (fun h1=>CK ?_)
 ·rw[bT_size] at h1
  refine xjp ?_
  refine xml ?_
  refine xmm ?_
  refine xjq ?_
  exact CR (Ret.cellTmp 2 3 rfl rfl rfl (RdL.many (ds:=FrameM.zero.cells mem0') 0 rfl rfl) rfl Imp.nil.ent (by rw[show getM s=none from(by rw[getM,if_pos yd])];exact⟨rfl,rfl⟩))
 rw[bT_size] at h1
 have hs:s.length≤1000000:=by omega
 have hG:getM s=_:=if_neg yd
 refine xjp ?_
 refine VG (VO.alloc rfl fun b4=>?_)
 refine xjp ?_
 refine VG (VO.buildSlice (n:=1) (pv:=[(0,pV b4)]) (flat (pfC b4) [0]) rfl rfl rfl rfl yo rfl fun sb=>?_)
 refine VO.ent (L':=[pt b4 (FrameM.zero.cells mem0') frmT] ++ [pt b2 (FrameM.zero.cells mem0') frmT,pt sb (flat (pfC b4) [0]) ipT]) (pkZ [1,1,0]).ent ?_
 refine VG (VK (Lc:=[pt b4 (FrameM.zero.cells mem0') frmT]) (fun Fr w hF hw hS=>ints_spec Fr w (os:=[0]) hs (Nat.le_of_ble_eq_true rfl) (all1 ⟨_,rfl⟩) (rwP (hS.blk 1 rfl))) rfl rfl ?_)
 rintro _ _ ⟨⟨ks,r,ok⟩,hI,rfl,rfl⟩
 have hl:=hI.len
 have hk1:=hI.ks
 have ht:=hI.t
 have hf:=hI.f
 dsimp only at hl hk1 ht hf
 obtain⟨k,rfl⟩:∃x,ks=[x]:=by
  match ks,hk1 with
  | [x],_=>exact⟨x,rfl⟩
 rw[show([0]:List Nat).length=1 from rfl,ints1] at ht hf
 show VO _ _ _ _ _ [pt b4 (({ FrameM.zero with kind:=k }:FrameM).cells mem0') frmT,pt b2 (FrameM.zero.cells mem0') frmT,pt sb (flat (pfC b4) [0]) ipT] _
 refine xjq ?_
 cases ok with
 | false=>
  have hu:unintB s=none:=by simpa using hf rfl
  rw[hu] at hG
  refine xdy ?_
  refine xjp ?_
  refine VG (VY 27 true rfl rfl ?_)
  refine xjq ?_
  refine VG (VY 32 true rfl rfl ?_)
  refine zos ?_
  refine xml ?_
  refine xmn ?_
  refine xjq ?_
  exact xmo
 | true=>
 have hu:unintB s=some (k,r):=by
  have:=ht rfl
  cases hx:unintB s with
  | none=>rw[hx] at this;cases this
  | some x=>rw[hx] at this;simp at this;rw[←this.1,←this.2]
 rw[hu] at hG
 dsimp only at hG
 clear ht hf hI hk1
 have hof:∀o∈offs k,isOff o=true:=fun o ho=>offs_is k o ho
 have hol:=offs_len k
 refine xdz ?_
 refine xjp ?_
 refine VG (VK (Lc:=[]) (fun Fr w hF hw hS=>numbers_spec Fr w (fb:=b4) (f:={ FrameM.zero with kind:=k }) (g:=mem0') (hS.blk 0 rfl)) rfl rfl ?_)
 rintro _ _ ⟨na,nc,rfl,rfl⟩
 show VO _ _ _ _ _ [slH ipT 1 na (offs k).length nc (flat (pfC b4) (offs k)),pt b4 (({ FrameM.zero with kind:=k }:FrameM).cells mem0') frmT,pt b2 (FrameM.zero.cells mem0') frmT,pt sb (flat (pfC b4) [0]) ipT] _
 refine VO.ent (L':=[pt b4 (({ FrameM.zero with kind:=k }:FrameM).cells mem0') frmT] ++ [pt b2 (FrameM.zero.cells mem0') frmT,slH ipT 1 na (offs k).length nc (flat (pfC b4) (offs k))]) (pkZ [1,1,0]).ent ?_
 refine VG (VK (Lc:=[pt b4 (({ FrameM.zero with kind:=k }:FrameM).cells mem0') frmT]) (fun Fr w hF hw hS=>ints_spec Fr w (s:=r) (os:=offs k) yd yd (fun o ho=>⟨_,cell_num _ _ (hof o ho)⟩) (RwIn.slH (pfC_len b4) (hS.at_ 1 rfl))) rfl rfl ?_)
 rintro _ _ ⟨⟨ks,r2,ok2⟩,hI,rfl,rfl⟩
 have hl2:=hI.len
 have ht:=hI.t
 have hf:=hI.f
 dsimp only at hl2 ht hf
 rw[setFs_cells _ _ _ _ hof]
 generalize hF2:setFs ({ FrameM.zero with kind:=k }:FrameM) (offs k) ks=F
 show VO _ _ _ _ _ [pt b4 (F.cells mem0') frmT,pt b2 (FrameM.zero.cells mem0') frmT,slH ipT 1 na (offs k).length nc (flat (pfC b4) (offs k))] _
 refine xjq ?_
 cases ok2 with
 | false=>
  rw[hf rfl] at hG
  refine VG (VY 27 true rfl rfl ?_)
  refine xjq ?_
  refine VG (VY 32 true rfl rfl ?_)
  refine zos ?_
  refine xml ?_
  refine xmn ?_
  refine xjq ?_
  exact xmo
 | true=>
 rw[ht rfl] at hG
 dsimp only at hG
 rw[hF2] at hG
 refine VG (VY 27 false rfl rfl ?_)
 refine xjq ?_
 refine VG (VK (Lc:=[pt b4 (F.cells mem0') frmT]) (fun Fr w hF hw hS=>fread_spec Fr w (s:=r2) (f:=F) yd) rfl rfl ?_)
 cases hR:readF F r2 with
 | none=>
  rw[hR] at hG
  rintro _ _ ⟨rfl,rfl⟩
  refine xjq ?_
  refine VG (VY 32 true rfl rfl ?_)
  refine zos ?_
  refine xml ?_
  refine xmm ?_
  refine xjq ?_
  exact CR (Ret.cellTmp 2 3 rfl rfl rfl (RdL.many (ds:=FrameM.zero.cells mem0') 0 rfl rfl) rfl Imp.nil.ent yce)
 | some y=>
 have hms:=readF_ms hR
 obtain⟨f,ms⟩:=y
 rw[hR] at hG
 dsimp only at hG hms
 rintro _ _ ⟨rfl,ma,mc,rfl⟩
 show VO _ _ _ _ _ [pt b4 (f.cells (ma,ms.length,mc)) frmT,slH memT 2 ma ms.length mc (flat memC ms),pt b2 (FrameM.zero.cells mem0') frmT,slH ipT 1 na (offs k).length nc (flat (pfC b4) (offs k))] _
 refine xjq ?_
 refine VG (VY 32 false rfl rfl ?_)
 refine xjq ?_
 refine xmp ?_
 refine VG (VV (fun Fr w hF hw hS=>may_spec Fr w (f:=f) (ms:=ms) (RwIn.slH memC_len (hS.at_ 1 rfl)) yd) rfl ?_)
 refine xjq ?_
 refine VC.condN rfl (fun h5=>?_) (fun h5=>CK ?_)
 ·rw[if_neg (by rw[h5];decide)] at hG
  refine xjq ?_
  refine xml ?_
  refine VG (VT (vs:=FrameM.zero.cells mem0') (cs':=FrameM.zero.cells mem0') 2 rfl rfl rfl rfl (NR _) rfl rfl rfl ?_)
  refine xjq ?_
  exact CR (Ret.cellTmp 2 3 rfl rfl rfl (RdL.many (ds:=FrameM.zero.cells mem0') 2 rfl rfl) rfl Imp.nil.ent yce)
 rw[if_pos h5] at hG
 refine xjq ?_
 refine xmp ?_
 refine VG (VT (vs:=f.cells (ma,ms.length,mc)) (cs':=f.cells (ma,ms.length,mc)) 2 rfl rfl rfl rfl (NR _) rfl rfl rfl ?_)
 refine xjq ?_
 exact CR (Ret.cellTmp 2 3 rfl rfl rfl (RdL.many (ds:=f.cells (ma,ms.length,mc)) 2 rfl rfl) rfl (L':=[slH memT 2 ma ms.length mc (flat memC ms)]) (IP 1 rfl Imp.nil).ent yca)
end Cl
namespace Cl
open Go Vg T Api Ch Rep
attribute [local irreducible] VO VC VA
abbrev lnkT:TypeId:=129
abbrev mailT:TypeId:=205
abbrev prT:TypeId:=190
abbrev LnV:=List ByteArray×(Option Addr×Nat)
abbrev LnG:=PrM×LnV
theorem keyI:KeyOk Tryz.prog prT iiV:=KeyOk.ii Tryz.underlying190 ym yo yo rfl rfl rfl rfl Tryz.underlying3 (tabOk.look (t:=3) rfl) rfl
def txV(v:LnV):Value:=.slice v.2.1 v.1.length v.2.2
def txH(x:LnG):HP:=slH strT 1 x.2.2.1 x.2.1.length x.2.2.2 (flat txC x.2.1)
def lnkC(S:LnkM)(b:Nat):List Value:=[.int .i64 S.cap,.map (some b)]
def lnkL(p:Nat)(S:LnkM)(b:Nat)(X:List LnG):List HP:=pt p (lnkC S b) lnkT::mapH iiV txV b X::X.map txH
def erX(X:List LnG):List (PrM×List ByteArray):=X.map fun x=>(x.1,x.2.1)
def lnkH(p:Nat)(S:LnkM):HP:=hex fun y:Nat×List LnG=>hsep (hpure (erX y.2=S.mail)::lnkL p S y.1 y.2)
theorem HOpn.lnk(p:Nat)(S:LnkM):HOpn (ι:=Nat×List LnG) (lnkH p S) (fun y=>erX y.2=S.mail) (fun y=>lnkL p S y.1 y.2):=fun w ids ⟨x,h⟩ hn=>by
 obtain⟨i1,i2,rfl,⟨rfl,h1⟩,h2⟩:=h
 exact⟨x,h1,i2,h2,hn,fun _ h=>h⟩
theorem Imp.lnk{p:Nat}{S:LnkM}{L K:List HP}(b:Nat)(X:List LnG)(hX:erX X=S.mail)(h:Imp L (lnkL p S b X++K)):Imp L (lnkH p S::K):=Imp.ex (f:=fun y:Nat×List LnG=>hsep (hpure (erX y.2=S.mail)::lnkL p S y.1 y.2)) (b,X) (Imp.sep (Imp.pure hX h))
structure LnkM.Ok(S:LnkM):Prop where
 c0:1≤S.cap
 c1:S.cap≤64
 each:∀x∈S.mail,x.2.length≤64
 nd:(S.mail.map Prod.fst).Nodup
theorem mGet_map{κ α β:Type}[DecidableEq κ](f:α→β)(a:κ):∀l:List (κ×α),mGet (l.map fun x=>(x.1,f x.2)) a=(mGet l a).map f
 | []=>rfl
 | (k,v)::r=>by
  simp only[List.map_cons,mGet]
  split
  ·rfl
  ·exact mGet_map f a r
theorem mPut_map{κ α β:Type}[DecidableEq κ](f:α→β)(a:κ)(u:α):∀l:List (κ×α),(mPut l a u).map (fun x=>(x.1,f x.2))=mPut (l.map fun x=>(x.1,f x.2)) a (f u)
 | []=>rfl
 | (k,v)::r=>by
  simp only[List.map_cons,mPut]
  split
  ·rfl
  ·simp only[List.map_cons,mPut_map f a u r]
theorem mDel_map{κ α β:Type}[DecidableEq κ](f:α→β)(a:κ):∀l:List (κ×α),(mDel l a).map (fun x=>(x.1,f x.2))=mDel (l.map fun x=>(x.1,f x.2)) a
 | []=>rfl
 | (k,v)::r=>by
  simp only[List.map_cons,mDel]
  split
  ·rfl
  ·simp only[List.map_cons,mDel_map f a r]
theorem lk_take(X:List LnG)(p:PrM):∃(old:List ByteArray) (a:Option Addr) (c:Nat) (R:List HP),old=(mGet (erX X) p).getD []∧((mGet X p).map txV).getD (.slice none 0 0)=.slice a old.length c ∧
  Imp (X.map txH) (slH strT 1 a old.length c (flat txC old)::R)∧(∀v:LnV,Imp (slH strT 1 v.2.1 v.1.length v.2.2 (flat txC v.1)::R) ((mPut X p v).map txH))∧Imp R ((mDel X p).map txH):=by
 have eg:mGet (erX X) p=(mGet X p).map Prod.fst:=mGet_map Prod.fst p X
 cases hl:lookI X p 0 with
 | none=>
  obtain⟨h1,h2,h3,h4⟩:=lookI_none hl
  refine⟨[],none,0,X.map txH,by rw[eg,h1];rfl,by rw[h1];rfl,Imp.slNil Imp.refl,fun v=>?_,by rw[h4];exact Imp.refl⟩
  rw[h3 v,List.map_append]
  exact Imp.perm (List.perm_append_comm (l₁:=[txH (p,v)]))
 | some q=>
  obtain⟨j,v0⟩:=q
  obtain⟨_,h2,h3,h4,h5⟩:=lookI_some hl
  rw[Nat.sub_zero] at h2 h4 h5
  have e1:(X.map txH)[j]?=some (txH (p,v0)):=by rw[List.getElem?_map,h2];rfl
  have e2:(X.map txH).eraseIdx j=(X.eraseIdx j).map txH:=(map_eraseIdx txH X j).symm
  have hj:j<X.length:=(List.getElem?_eq_some_iff.1 h2).1
  refine⟨v0.1,v0.2.1,v0.2.2,(X.map txH).eraseIdx j,by rw[eg,h3];rfl,by rw[h3];rfl,Imp.perm (perm_eraseIdx e1),fun v=>?_,by rw[h5,e2];exact Imp.refl⟩
  rw[h4 v]
  have e3:((X.set j (p,v)).map txH)[j]?=some (txH (p,v)):=by rw[List.getElem?_map,List.getElem?_set_self hj];rfl
  have e4:((X.set j (p,v)).map txH).eraseIdx j=(X.map txH).eraseIdx j:=by rw[List.map_set,List.eraseIdx_set_eq]
  refine Imp.perm ?_
  have:=(perm_eraseIdx e3).symm
  rw[e4] at this
  exact this
section
variable {p:Nat} {S:LnkM} {b:Nat} {X:List LnG}
theorem lnone_spec(h:Blk Fr w p (lnkC S b)):Tri Tryz.prog 103 [.pointer (some ⟨p,0,none⟩)] Fr w [] (fun v L=>v=.bool false∧L=[]):=by
 refine TF 12 Tryz.func103 rfl ym tabOk rfl rfl ?_
 refine xjq ?_
 refine xez ?_
 refine xjr ?_
 refine VG (VI (light_mapNil Tryz.underlying127 rfl rfl) ?_)
 refine xjq ?_
 exact xfa
theorem lnew_spec{n:Int}(h0:1≤n)(h1:n≤64):Tri Tryz.prog 37 [.int .i64 n] Fr w [] (fun v L=>∃p,v=.tuple #[.pointer (some ⟨p,0,none⟩),.int .i64 0]∧L=[lnkH p ⟨n,[]⟩]):=by
 refine TF 14 Tryz.func37 rfl ym tabOk rfl rfl ?_
 refine xjp ?_
 refine VG (VY 6 false rfl (DF yd) ?_)
 refine xjq ?_
 refine CP (p:=64<n) rfl (fun h=>absurd h yd) (fun h=>CK ?_)
 refine xjq ?_
 refine VG (VO.opx (OpT.makeMap iiV txV) ?_)
 rintro _ _ ⟨m,rfl,rfl⟩
 refine VG (VI (LB (pv:=[(0,.int .i64 n),(1,.map (some m))]) (lnkC ⟨n,[]⟩ m) rfl rfl rfl ym rfl) ?_)
 refine VG (VB (vs:=lnkC ⟨n,[]⟩ m) rfl fun q=>?_)
 refine xjq ?_
 exact CR (Ret.tmp2 2 3 rfl rfl rfl (Imp.lnk (S:=⟨n,[]⟩) (K:=[]) m [] rfl Imp.refl).ent ⟨q,rfl,rfl⟩)
theorem address_spec(n:Int):Tri Tryz.prog 158 [.int .i64 n] Fr w [] (fun v L=>v=.bool (adrB n)∧L=[]):=by
 unfold adrB
 refine TF 21 Tryz.func158 rfl ym tabOk rfl rfl ?_
 refine xjq ?_
 by_cases h0:0≤n
 ·refine VG (VY 5 true rfl (DT h0) ?_)
  refine xjq ?_
  by_cases h6:n<6
  ·refine VG (VY 9 true rfl (DT h6) ?_)
   refine xjq ?_
   refine VG (VY 13 true rfl rfl ?_)
   refine xjq ?_
   exact CR (Ret.bool 2 rfl rfl (by simp[h0,h6]) ER ⟨rfl,rfl⟩)
  refine VG (VY 9 false rfl (DF h6) ?_)
  refine xjq ?_
  by_cases h16:n=16
  ·refine VG (VY 13 true rfl (beq_iff_eq.2 h16) ?_)
   refine xjq ?_
   exact CR (Ret.bool 2 rfl rfl (by simp[h16]) ER ⟨rfl,rfl⟩)
  refine VG (VY 13 false rfl (beq_eq_false_iff_ne.2 h16) ?_)
  refine xjq ?_
  by_cases h32:32≤n
  ·refine VG (VY 16 true rfl (DT h32) ?_)
   refine xjq ?_
   exact CR (Ret.bool 2 rfl rfl (by simp[h0,h6,h16,h32]) ER ⟨rfl,rfl⟩)
  refine VG (VY 16 false rfl (DF h32) ?_)
  refine xjq ?_
  exact CR (Ret.bool 2 rfl rfl (by simp[h0,h6,h16,h32]) ER ⟨rfl,rfl⟩)
 refine VG (VY 5 false rfl (DF h0) ?_)
 refine xjq ?_
 refine VG (VY 9 false rfl rfl ?_)
 refine xjq ?_
 refine VG (VY 13 false rfl (beq_eq_false_iff_ne.2 yd) ?_)
 refine xjq ?_
 refine VG (VY 16 false rfl (DF yd) ?_)
 refine xjq ?_
 exact xek
theorem OpT.lookupV{Z:Cx}{κ α:Type}[DecidableEq κ]{c:κ→Value}{d:α→Value}{b:Nat}{xs:List (κ×α)}{e:Env}{L:List HP}{T kt et:TypeId}{te:TI}{x y:Operand}(K:KeyOk Z.P kt c)(hT:Z.P.underlying T=some (.map kt et))(hE:tyLook Z.tab et=some te){a:κ}(v:Value)(hx:ev e x=some (.map (some b)))(hk:ev e y=some (c a))(hM:MpL Z L c d b xs)(hv:((mGet xs a).map d).getD te.zero=v):
  OpT Z (.lookup T x y false) e L (fun u L'=>u=v∧L'=L):=hv▸OpT.lookup (ok:=false) K hT hE hx hk hM
theorem VA.lookupV{Z:Cx}{κ α:Type}[DecidableEq κ]{c:κ→Value}{d:α→Value}{b:Nat}{xs:List (κ×α)}{ops:Array Oper}{G:GS}{pl:Plan}{S:Pend}{e:Env}{L:List HP}{Q:Env→List HP→Prop}{dst:Option Tmp}{ty:TypeId}{pos:String}{after:Array Edge}{guard:Option (Nat×Bool)}
  {i:Nat} {T kt et:TypeId} {te:TI} {x y:Operand} {a:κ} (KO:KeyOk Z.P kt c) (hT:Z.P.underlying T=some (.map kt et)) (hE:tyLook Z.tab et=some te) (v:Value)
  (hi:ops.toList[i]?=some ⟨dst,.lookup T x y false,ty,pos,after,guard⟩) (hx:ev e x=some (.map (some b))) (hk:ev e y=some (c a)) (hM:MpL Z L c d b xs) (hv:((mGet xs a).map d).getD te.zero=v)
  (hn:VA Z ops G pl ((i,MapAt c d b xs)::S) (putE dst v e) L Q)
  (hg:gOn ops G guard=some true:=by rfl) (hd:dstOk Z.n dst=true:=by rfl) (hf:gFree G dst=true:=by rfl):VA Z ops G (.take i pl) S e L Q:=
 VA.lookup (ok:=false) KO hT hE hi hx hk hM (by subst hv;exact hn) hg hd hf
end
end Cl
namespace Cl
open Go Vg T Api Ch Rep
attribute [local irreducible] VO VC VA
def mailC(x y:Int)(t:ByteArray):List Value:=[.int .i64 x,.int .i64 y,.string t]
theorem list_len{S:LnkM}(ok:S.Ok)(p:PrM):(S.list p).length≤64:=by
 unfold LnkM.list
 cases h:mGet S.mail p with
 | none=>exact Nat.zero_le _
 | some v=>exact ok.each _ (mGet_mem h)
theorem mPut_mem{κ α:Type}[DecidableEq κ]{a:κ}{u:α}:∀{l:List (κ×α)} {x:κ×α},x∈mPut l a u→x∈l∨x=(a,u)
 | [],x,h=>.inr (by simpa[mPut] using h)
 | (k,v)::r,x,h=>by
  unfold mPut at h
  split at h
  ·rename_i hk
   rcases List.mem_cons.1 h with h | h
   ·right;rw[h,hk]
   ·left;exact List.mem_cons_of_mem _ h
  ·rcases List.mem_cons.1 h with h | h
   ·left;rw[h];exact List.mem_cons_self
   ·rcases mPut_mem h with h | h
    ·left;exact List.mem_cons_of_mem _ h
    ·right;exact h
theorem LnkM.Ok.put{S:LnkM}(ok:S.Ok)(p:PrM){l:List ByteArray}(h:l.length≤64):({ S with mail:=mPut S.mail p l }:LnkM).Ok:=
 ⟨ok.c0,ok.c1,fun x hx=>(mPut_mem hx).elim (ok.each x) (fun e=>by rw[e];exact h),mPut_nodup ok.nd _ _⟩
theorem LnkM.Ok.del{S:LnkM}(ok:S.Ok)(p:PrM):({ S with mail:=mDel S.mail p }:LnkM).Ok:=
 ⟨ok.c0,ok.c1,fun x hx=>ok.each x ((mDel_sub _ _).mem hx),mDel_nodup ok.nd _⟩
theorem LnkM.Ok.send{S:LnkM}(ok:S.Ok)(p:PrM)(t:ByteArray):(S.send p t).Ok:=by
 unfold LnkM.send
 split
 ·exact ok
 rename_i h
 refine ok.put p ?_
 have:=list_len ok p
 have:=ok.c1
 rw[List.length_append]
 have h0:S.sendE p t=0:=by simpa using h
 unfold LnkM.sendE at h0
 split at h0
 ·cases h0
 split at h0
 ·cases h0
 split at h0
 ·cases h0
 ·simp;omega
section
variable {p:Nat} {S:LnkM} {b:Nat} {X:List LnG}
theorem sendE_2{x y:Int}{t:ByteArray}(h:adrB x=false∨adrB y=false∨x=y):S.sendE (x,y) t=2:=by unfold LnkM.sendE;exact if_pos h
theorem sendE_n{x y:Int}{t:ByteArray}(h:¬(adrB x=false∨adrB y=false∨x=y)):S.sendE (x,y) t=if 512<t.size then 3 else if S.cap≤(S.list (x,y)).length then 60 else 0:=by unfold LnkM.sendE;exact if_neg h
theorem send_bad{q:PrM}{t:ByteArray}{e:Int}(h:S.sendE q t=e)(he:e≠0):S.send q t=S:=by unfold LnkM.send;rw[h,if_pos he]
theorem lsend_spec(ok:S.Ok)(x y:Int)(t:ByteArray):Tri Tryz.prog 111 [.pointer (some ⟨p,0,none⟩),.agg (mailC x y t).toArray] Fr w [lnkH p S]
  (fun v L=>v=.int .i64 (S.sendE (x,y) t)∧L=[lnkH p (S.send (x,y) t)]):=by
 have hll:=list_len ok (x,y)
 have hc1:=ok.c1
 refine TF 62 Tryz.func111 rfl ym tabOk rfl rfl ?_
 refine VC.opn 0 rfl (HOpn.lnk p S) ?_
 rintro⟨b,X⟩ hX
 dsimp only at hX
 refine xmq ?_
 obtain⟨old,a,c,R,e1,e2,e3,e4,e5⟩:=lk_take X (x,y)
 have eo:old=S.list (x,y):=by rw[e1,hX];rfl
 refine CS (CG (VG (VB (vs:=mailC x y t) rfl fun mb=>?_)))
 refine xjp ?_
 refine xjv ?_
 refine xjp ?_
 refine xjv ?_
 refine xjp ?_
 refine xmr ?_
 refine VG (VO.alloc rfl fun kb=>?_)
 refine xms ?_
 show VO _ _ _ _ _ (pt kb [.int .i64 x,.int .i64 y] prT::pt mb (mailC x y t) mailT::pt p (lnkC S b) lnkT::mapH iiV txV b X::X.map txH) _
 have fin:Ent ⟨Tryz.prog,tab,tabOk,62,Fr,w⟩ (pt kb [.int .i64 x,.int .i64 y] prT::pt mb (mailC x y t) mailT::pt p (lnkC S b) lnkT::mapH iiV txV b X::X.map txH) [lnkH p S]:=
  (Imp.lnk (K:=[]) b X hX (by rw[List.append_nil];exact IP 2 rfl (IP 2 rfl (Imp.app (L:=[_,_]) (M:=[]) Imp.nil Imp.refl)))).ent
 refine xjp ?_
 refine VG (VV (fun Fr w hF hw hS=>lnone_spec Fr w (hS.blk 2 rfl)) rfl ?_)
 refine xjp ?_
 refine xdg ?_
 refine xdx ?_
 refine VG (VV (fun Fr w hF hw hS=>address_spec Fr w x) rfl ?_)
 refine xdx ?_
 by_cases k1:adrB x=true
 rotate_left
 ·have hE:=sendE_2 (S:=S) (x:=x) (y:=y) (t:=t) (.inl ycf)
  refine VG (VY 19 true rfl ycf ?_)
  refine xdx ?_
  refine VG (VY 25 true rfl rfl ?_)
  refine xdx ?_
  refine xdz ?_
  refine xjq ?_
  exact xmt
 refine VG (VY 19 false rfl ycf ?_)
 refine xdx ?_
 refine VG (VV (fun Fr w hF hw hS=>address_spec Fr w y) rfl ?_)
 refine xdx ?_
 by_cases k2:adrB y=true
 rotate_left
 ·have hE:=sendE_2 (S:=S) (x:=x) (y:=y) (t:=t) (.inr (.inl (by simpa using k2)))
  refine VG (VY 25 true rfl (by simpa using k2) ?_)
  refine xdx ?_
  refine xdz ?_
  refine xjq ?_
  exact xmt
 refine VG (VY 25 false rfl (by simpa using k2) ?_)
 refine xdx ?_
 refine CE rfl (fun k3=>?_) (fun k3=>?_)
 ·have hE:=sendE_2 (S:=S) (x:=x) (y:=y) (t:=t) (.inr (.inr k3))
  refine xjq ?_
  exact xmt
 have hN:=sendE_n (S:=S) (t:=t) (by rintro(h | h | h);rw[k1] at h;cases h;rw[k2] at h;cases h;exact k3 h:¬(adrB x=false∨adrB y=false∨x=y))
 refine xdx ?_
 refine CP (p:=512<(t.size:Int)) rfl (fun k4=>?_) (fun k4=>?_)
 ·have hE:S.sendE (x,y) t=3:=by rw[hN,if_pos yd]
  refine xjq ?_
  exact xmt
 refine xjq ?_
 refine CD (ts 0 13 .nil) ym yr ?_
 refine xgd ?_
 refine AG (VA.ldA 0 [.int .i64 x,.int .i64 y] rfl rfl rfl rfl rfl ?_)
 refine AG (VA.lookupV (a:=(x,y)) keyI Tryz.underlying127 rfl (.slice a old.length c) rfl rfl rfl (MpL.one 3 rfl) e2 ?_)
 refine xgd ?_
 refine CP (p:=S.cap≤(old.length:Int)) rfl (fun k5=>?_) (fun k5=>CK ?_)
 ·have hE:S.sendE (x,y) t=60:=by rw[hN,if_neg yd,←eo,if_pos k5]
  refine xjq ?_
  exact xmt
 have hE:S.sendE (x,y) t=0:=by rw[hN,if_neg yd,←eo,if_neg k5]
 have en:(old ++ [t]).length=old.length+1:=by rw[List.length_append];rfl
 refine CN (L':=slH strT 1 a old.length c (flat txC old)::pt kb [.int .i64 x,.int .i64 y] prT::pt mb (mailC x y t) mailT::pt p (lnkC S b) lnkT::mapH iiV txV b X::R) ?_ ?_
 ·refine((Imp.app (L:=[_,_,_,_]) (M:=[_,_,_,_]) Imp.refl e3).trans (IP 4 rfl Imp.refl)).ent
 refine xjp ?_
 refine CD (ts 0 7 (.only 7 (.only 8 (ts 9 1 (ts 11 1 (.only 10 (.only 12 .nil))))))) ym yr ?_
 refine xfe ?_
 refine xmu ?_
 refine xfe ?_
 refine AG (AO (OpT.buildSlice (n:=1) (pv:=[(0,.string t)]) (cells:=txC t) rfl rfl rfl rfl yo (fill_one rfl rfl rfl)) rfl ?_ ?_)
 ·rintro _ _ ⟨nb,rfl,rfl⟩
  exact yv
 rintro _ _ ⟨nb,rfl,rfl⟩
 refine AG (AO (OpT.mapEntryV 5 keyI Tryz.underlying127 rfl (.slice a old.length c) (a:=(x,y)) rfl rfl rfl e2) rfl ?_ ?_)
 ·rintro _ _ ⟨st,rfl,rfl⟩
  exact yv
 rintro _ _ ⟨st,rfl,rfl⟩
 refine xfe ?_
 refine AG (AO (OpT.append (m:=1) (news:=txC t) 1 rfl rfl rfl rfl rfl rfl rfl (RdRow.pt 0 rfl rfl rfl) rfl (by show(old.length+1)*16≤_;omega) yd) rfl ?_ ?_)
 ·rintro _ _ ⟨a1,c1,rfl,hc1,rfl⟩
  exact yv
 rintro _ _ ⟨a1,c1,rfl,hc1,rfl⟩
 refine xfe ?_
 refine AG (AO (OpT.entryStore 5 (c:=iiV) (d:=txV) (xs:=X) (a:=(x,y)) (u:=(old ++ [t],(a1,c1))) rfl rfl (by show some (Value.slice a1 (old.length+1) c1)=some (.slice a1 (old ++ [t]).length c1);rw[en]) rfl) rfl ?_ ?_)
 ·rintro _ _ ⟨rfl,rfl⟩
  exact yv
 rintro _ _ ⟨rfl,rfl⟩
 refine zou ?_
 refine CR (Ret.tmp 4 rfl rfl (L':=[lnkH p (S.send (x,y) t)]) ?_ ⟨by rw[hE],rfl⟩)
 have es:S.send (x,y) t={ S with mail:=mPut S.mail (x,y) (old ++ [t]) }:=by unfold LnkM.send;rw[hE,if_neg yo,eo]
 rw[es]
 refine(Imp.lnk (S:={ S with mail:=mPut S.mail (x,y) (old ++ [t]) }) (K:=[]) b (mPut X (x,y) (old ++ [t],(a1,c1))) (by show erX _=mPut S.mail (x,y) (old ++ [t]);rw[←hX];exact mPut_map Prod.fst _ _ _) ?_).ent
 rw[List.append_nil]
 refine IP 4 rfl (IP 4 rfl ?_)
 have e4':=e4 (old ++ [t],(a1,c1))
 dsimp only at e4'
 rw[flat_append,flat_1,en] at e4'
 exact(Imp.app (L:=[_]) (L':=_) (M:=[_]) Imp.refl (Imp.app (L:=[_,_,_]) (M:=[]) Imp.nil Imp.refl)).trans e4'
end
end Cl
namespace Cl
open Go Vg T Api Ch Rep
attribute [local irreducible] VO VC VA
def fdV(S:LnkM)(p:PrM)(i:Int):Value:=match S.find p i with
 | none=>.tuple #[.agg (mailC 0 0 ⟨#[]⟩).toArray,.int .i64 4]
 | some t=>.tuple #[.agg (mailC p.1 p.2 t).toArray,.int .i64 0]
theorem fdV_none{S:LnkM}{p:PrM}{i:Int}(h:S.find p i=none):fdV S p i=.tuple #[.agg (mailC 0 0 ⟨#[]⟩).toArray,.int .i64 4]:=by unfold fdV;rw[h]
theorem fdV_some{S:LnkM}{p:PrM}{i:Int}{t:ByteArray}(h:S.find p i=some t):fdV S p i=.tuple #[.agg (mailC p.1 p.2 t).toArray,.int .i64 0]:=by unfold fdV;rw[h]
theorem mDel_put{κ α:Type}[DecidableEq κ](a:κ)(u:α):∀l:List (κ×α),mDel (mPut l a u) a=mDel l a
 | []=>by simp[mPut,mDel]
 | (k,v)::r=>by
  unfold mPut
  by_cases h:k=a
  ·rw[if_pos h];simp[mDel,h]
  ·rw[if_neg h];simp[mDel,h,mDel_put a u r]
theorem lk_rows{Fr:Nat→Prop}{w:World}{A:List HP}{X:List LnG}(h:SatIn Fr (A++X.map txH) w):∀z∈X,RwIn txC 1 Fr w z.2.2.1 z.2.1:=fun z hz=>by
 obtain⟨i,hi,rfl⟩:=List.getElem_of_mem hz
 exact RwIn.slH txC_len (h.at_ (A.length+i) (by rw[List.getElem?_append_right yd,Nat.add_sub_cancel_left,List.getElem?_map,GE hi];rfl))
section
variable {p:Nat} {S:LnkM} {b:Nat} {X:List LnG}
theorem lfind_spec(ok:S.Ok)(h:Blk Fr w p (lnkC S b))(hm:MapBlk Fr w iiV txV b X)(hr:∀z∈X,RwIn txC 1 Fr w z.2.2.1 z.2.1)(hX:erX X=S.mail)(x y i:Int):Tri Tryz.prog 130 [.pointer (some ⟨p,0,none⟩),.int .i64 x,.int .i64 y,.int .i64 i] Fr w [] (fun v L=>v=fdV S (x,y) i∧L=[]):=by
 have hll:=list_len ok (x,y)
 have eg:mGet S.mail (x,y)=(mGet X (x,y)).map Prod.fst:=by rw[←hX];exact mGet_map Prod.fst _ X
 obtain⟨l,a,c,e1,e2,e3⟩:∃(l:List ByteArray) (a:Option Addr) (c:Nat),S.list (x,y)=l∧((mGet X (x,y)).map txV).getD (.slice none 0 0)=.slice a l.length c∧RwIn txC 1 Fr w a l:=by
  unfold LnkM.list
  rw[eg]
  cases hg:mGet X (x,y) with
  | none=>exact⟨[],none,0,rfl,rfl,RwIn.nil⟩
  | some v=>exact⟨v.1,v.2.1,v.2.2,rfl,rfl,hr _ (mGet_mem hg)⟩
 have hf:S.find (x,y) i=if i<0 then none else l[i.toNat]?:=by unfold LnkM.find;rw[e1]
 rw[e1] at hll
 refine TF 38 Tryz.func130 rfl ym tabOk rfl rfl ?_
 refine CS (CG (VG (VO.alloc rfl fun rb=>?_)))
 refine xjq ?_
 refine xmv ?_
 refine zop ?_
 refine xjr ?_
 refine xmr ?_
 refine VG (VO.op1 (OpT.lookupV keyI Tryz.underlying127 rfl (a:=(x,y)) (.slice a l.length c) rfl rfl (MpL.blk hm) e2) ?_)
 refine xjq ?_
 by_cases h0:i<0
 ·refine VG (VY 24 true rfl (DT h0) ?_)
  refine zos ?_
  refine xmw ?_
  refine xmx ?_
  refine xjq ?_
  exact CR (Ret.cellTmp 8 9 rfl rfl rfl (RdL.many (ds:=mailC 0 0 ⟨#[]⟩) 0 rfl rfl) rfl Imp.nil.ent ⟨(fdV_none (by rw[hf,if_pos h0])).symm,rfl⟩)
 obtain⟨k,rfl⟩:∃k:Nat,i=k:=⟨i.toNat,by omega⟩
 rw[if_neg h0,Int.toNat_natCast] at hf
 refine VG (VY 24 false rfl (DF h0) ?_)
 refine xjq ?_
 refine CP (p:=(l.length:Int)≤k) rfl (fun h1=>?_) (fun h1=>CK ?_)
 ·refine xjq ?_
  refine xmw ?_
  refine xmx ?_
  refine xjq ?_
  exact CR (Ret.cellTmp 8 9 rfl rfl rfl (RdL.many (ds:=mailC 0 0 ⟨#[]⟩) 0 rfl rfl) rfl Imp.nil.ent ⟨(fdV_none (by rw[hf,List.getElem?_eq_none yd])).symm,rfl⟩)
 have hk:k<l.length:=by omega
 have hk2:l[k]?=some l[k]:=GE hk
 generalize l[k]=t at hk2
 obtain⟨tb,to,rfl,_,hrd⟩:=RwIn.rd (X:=⟨Tryz.prog,tab,tabOk,38,Fr,w⟩) e3 hk2
 refine xjq ?_
 refine xea ?_
 refine VG (VO.load rfl rfl (hrd _ _ 0 _ rfl rfl) ?_)
 refine xjq ?_
 refine VG (VI (LB (pv:=[(0,.int .i64 x),(1,.int .i64 y),(2,.string t)]) (mailC x y t) rfl rfl rfl ym rfl) ?_)
 refine xmy ?_
 refine xjq ?_
 exact CR (Ret.cellTmp 8 9 rfl rfl rfl (RdL.many (ds:=mailC x y t) 0 rfl rfl) rfl Imp.nil.ent ⟨(fdV_some (by rw[hf,hk2])).symm,rfl⟩)
end
end Cl
namespace Cl
open Go Vg T Api Ch Rep
attribute [local irreducible] VO VC VA
theorem find_is{S:LnkM}{q:PrM}{i:Int}{t:ByteArray}(h:S.find q i=some t):∃k:Nat,i=k∧k<(S.list q).length∧(S.list q)[k]?=some t:=by
 unfold LnkM.find at h
 split at h
 ·cases h
 ·exact⟨i.toNat,by omega,(List.getElem?_eq_some_iff.1 h).1,h⟩
theorem drop_none{S:LnkM}{q:PrM}{i:Int}(h:S.find q i=none):S.drop q i=(S,4):=by unfold LnkM.drop;rw[if_pos h]
theorem drop_some{S:LnkM}{q:PrM}{i:Int}{t:ByteArray}(h:S.find q i=some t):S.drop q i=(S.without q i,0):=by unfold LnkM.drop;rw[if_neg (by rw[h];intro e;cases e)]
theorem LnkM.Ok.drop{S:LnkM}(ok:S.Ok)(q:PrM)(i:Int):(S.drop q i).1.Ok:=by
 unfold LnkM.drop
 split
 ·exact ok
 show(S.without q i).Ok
 have hl:=list_len ok q
 have hl2:((S.list q).eraseIdx i.toNat).length≤64:=Nat.le_trans (List.length_eraseIdx_le _ _) hl
 unfold LnkM.without
 split
 ·exact LnkM.Ok.del (ok.put q hl2) q
 ·exact ok.put q hl2
section
variable {p:Nat} {S:LnkM} {b:Nat} {X:List LnG}
theorem ldeliver_spec(ok:S.Ok)(x y i:Int):Tri Tryz.prog 127 [.pointer (some ⟨p,0,none⟩),.int .i64 x,.int .i64 y,.int .i64 i] Fr w [lnkH p S]
  (fun v L=>v=fdV S (x,y) i∧L=[lnkH p (S.drop (x,y) i).1]):=by
 have hll:=list_len ok (x,y)
 refine TF 55 Tryz.func127 rfl ym tabOk rfl rfl ?_
 refine VC.opn 0 rfl (HOpn.lnk p S) ?_
 rintro⟨b,X⟩ hX
 dsimp only at hX
 refine xmq ?_
 obtain⟨old,a,c,R,e1,e2,e3,e4,e5⟩:=lk_take X (x,y)
 have eo:old=S.list (x,y):=by rw[e1,hX];rfl
 refine CS (CG (VG (VO.alloc rfl fun rb=>?_)))
 refine xjp ?_
 refine VG (VV (fun Fr w hF hw hS=>lfind_spec Fr w ok (hS.blk 1 rfl) (hS.mapBlk 2 rfl) (lk_rows (A:=[_,_,_]) hS) hX x y i) rfl ?_)
 cases hf:S.find (x,y) i with
 | none=>
  rw[fdV_none hf]
  refine xjp ?_
  refine xmx ?_
  refine zqj ?_
  refine xmw ?_
  refine xmx ?_
  refine xjp ?_
  refine CR (Ret.cellTmp 8 9 rfl rfl rfl (RdL.many (ds:=mailC 0 0 ⟨#[]⟩) 0 rfl rfl) rfl (L':=[lnkH p S]) ?_ ⟨rfl,by rw[drop_none hf]⟩)
  exact(Imp.lnk (K:=[]) b X hX (by rw[List.append_nil];exact IP 1 rfl (IP 1 rfl (Imp.app (L:=[_]) (M:=[]) Imp.nil Imp.refl)))).ent
 | some t=>
  obtain⟨k,rfl,hk,hkt⟩:=find_is hf
  rw[←eo] at hk hkt
  rw[fdV_some hf]
  refine xjp ?_
  refine xmy ?_
  refine zox ?_
  refine xmr ?_
  refine VG (VO.alloc rfl fun kb=>?_)
  refine xms ?_
  refine VO.ent (L':=slH strT 1 a old.length c (flat txC old)::pt kb [.int .i64 x,.int .i64 y] prT::pt rb (mailC x y t) mailT::pt p (lnkC S b) lnkT::mapH iiV txV b X::R) ?_ ?_
  ·exact((Imp.app (L:=[_,_,_,_]) (M:=[_,_,_,_]) Imp.refl e3).trans (IP 4 rfl Imp.refl)).ent
  have hlo:old.length≤64:=by rw[eo];exact hll
  refine xjp ?_
  refine CD (ts 0 14 (.only 14 (.only 15 .nil))) ym yr ?_
  refine xfe ?_
  refine xmu ?_
  refine xfe ?_
  refine xmu ?_
  refine AG (VA.lookupV (a:=(x,y)) keyI Tryz.underlying127 rfl (.slice a old.length c) rfl rfl rfl (MpL.one 4 rfl) e2 ?_)
  refine xfe ?_
  refine xeo ?_
  refine AG (AQ 0 rfl (fun Fr w hF hs hS=>tdelete_spec (a:=a) (cap:=c) Fr w hk yd) rfl rfl (ψ:=fun v H=>∃a' cap',v=.slice a' (old.eraseIdx k).length cap'∧H=slH strT 1 a' (old.eraseIdx k).length cap' (flat txC (old.eraseIdx k))) (fun v L h=>by obtain⟨a',c',h1,h2⟩:=h;exact⟨_,h2,a',c',h1,rfl⟩) ?_ ?_)
  ·rintro _ _ ⟨a1,c1,rfl,rfl⟩
   exact yv
  rintro _ _ ⟨a1,c1,rfl,rfl⟩
  refine AG (AO (OpT.mapUpdate 4 (c:=iiV) (d:=txV) (xs:=X) (a:=(x,y)) (u:=(old.eraseIdx k,(a1,c1))) keyI Tryz.underlying127 rfl rfl rfl rfl) rfl ?_ ?_)
  ·rintro _ _ ⟨rfl,rfl⟩
   exact yv
  rintro _ _ ⟨rfl,rfl⟩
  refine xjs ?_
  have ew:S.without (x,y) k=if (old.eraseIdx k).length=0 then { S with mail:=mDel (mPut S.mail (x,y) (old.eraseIdx k)) (x,y) } else { S with mail:=mPut S.mail (x,y) (old.eraseIdx k) }:=by unfold LnkM.without;rw[←eo,Int.toNat_natCast]
  have eX:erX (mPut X (x,y) (old.eraseIdx k,(a1,c1)))=mPut S.mail (x,y) (old.eraseIdx k):=by rw[←hX];exact mPut_map Prod.fst _ _ _
  refine CS (VC.meetS (σ:=Unit) (fun _=>[(8,pV rb)]) (fun _=>[lnkH p (S.without (x,y) k),pt rb (mailC x y t) mailT]) (fun _=>True) ?_ ?_)
  ·refine CS (CD (ts 0 8 .nil) ym yr ?_)
   refine xfe ?_
   refine xmu ?_
   refine AG (VA.lookupV (a:=(x,y)) keyI Tryz.underlying127 rfl (.slice a1 (old.eraseIdx k).length c1) rfl rfl rfl (MpL.one 4 rfl) (by rw[mGet_put,if_pos rfl];rfl) ?_)
   refine xfe ?_
   refine CE (i:=((old.eraseIdx k).length:Int)) (j:=0) rfl (fun k0=>?_) (fun k0=>CK ?_)
   ·refine CD (ts 0 5 (.only 5 .nil)) ym yr ?_
    refine xfe ?_
    refine xmu ?_
    refine AG (AO (OpT.delete 4 (c:=iiV) (d:=txV) (xs:=mPut X (x,y) (old.eraseIdx k,(a1,c1))) (a:=(x,y)) keyI Tryz.underlying127 rfl rfl rfl) rfl ?_ ?_)
    ·rintro _ _ ⟨rfl,rfl⟩
     exact yv
    rintro _ _ ⟨rfl,rfl⟩
    refine xjs ?_
    refine⟨(),trivial,sbZ,?_⟩
    rw[ew,if_pos yd]
    refine(Imp.lnk (S:={ S with mail:=mDel (mPut S.mail (x,y) (old.eraseIdx k)) (x,y) }) b (mDel (mPut X (x,y) (old.eraseIdx k,(a1,c1))) (x,y)) (by show erX _=mDel (mPut S.mail (x,y) (old.eraseIdx k)) (x,y);rw[←eX];exact mDel_map Prod.fst _ _) ?_).ent
    refine IP 3 rfl (IP 3 rfl ?_)
    refine(Imp.perm (List.perm_append_comm (l₁:=[_,_,_]) (l₂:=R))).trans (Imp.app ?_ (IP 2 rfl Imp.nil))
    rw[mDel_put]
    exact e5
   ·refine⟨(),trivial,sbZ,?_⟩
    rw[ew,if_neg yd]
    refine(Imp.lnk (S:={ S with mail:=mPut S.mail (x,y) (old.eraseIdx k) }) b (mPut X (x,y) (old.eraseIdx k,(a1,c1))) eX ?_).ent
    refine IP 3 rfl (IP 3 rfl ?_)
    refine Imp.trans (M:=[pt rb (mailC x y t) mailT]++(mPut X (x,y) (old.eraseIdx k,(a1,c1))).map txH) (IP 2 rfl ?_) (Imp.perm List.perm_append_comm)
    exact(Imp.app (L:=[_]) (L':=_) (M:=[_]) Imp.refl (Imp.app (L:=[_]) (M:=[]) Imp.nil Imp.refl)).trans (e4 (old.eraseIdx k,(a1,c1)))
  rintro - -
  refine xjp ?_
  refine VG (VL 1 (mailC x y t) rfl rfl rfl rfl ?_)
  refine VG (VT (vs:=mailC x y t) (cs':=mailC x y t) 1 rfl rfl rfl rfl (NR _) rfl rfl rfl ?_)
  refine xjp ?_
  exact CR (Ret.cellTmp 8 9 rfl rfl rfl (RdL.many (ds:=mailC x y t) 1 rfl rfl) rfl (L':=[lnkH p (S.without (x,y) k)]) (IP 0 rfl Imp.nil).ent ⟨rfl,by rw[drop_some hf]⟩)
end
end Cl
namespace Cl
open Go Vg T Api Ch Rep
attribute [local irreducible] VO VC VA
theorem nat_sub_len:∀{l m:List Nat},l.Nodup→(∀x∈l,x∈m)→l.length≤m.length
 | [],m,_,_=>Nat.zero_le _
 | x::l,m,hn,hs=>by
  have hx:=hs x List.mem_cons_self
  have h1:=List.nodup_cons.1 hn
  have:=nat_sub_len (l:=l) (m:=m.erase x) h1.2 (fun y hy=>(List.mem_erase_of_ne (fun e=>h1.1 (by rw[←e];exact hy))).2 (hs y (List.mem_cons_of_mem _ hy)))
  have h2:=List.length_erase_of_mem hx
  have h3:0<m.length:=List.length_pos_of_mem hx
  rw[List.length_cons];omega
theorem ZOk.len{κ α:Type}{c:κ→Value}{d:α→Value}{xs:List (κ×α)}{es:Array MapEntry}{k:Nat}{J:Zed κ α}(h:ZAt c d xs es k)(ok:ZOk c d xs es J):J.length≤xs.length:=by
 have h1:=nat_sub_len (m:=es.toList.map (·.born)) ok.nd (fun x hx=>by
  obtain⟨z,hz,rfl⟩:=List.mem_map.1 hx
  exact List.mem_map.2 ⟨z.1,(h.kv (ok.sub z hz)).1,rfl⟩)
 rw[List.length_map,List.length_map,h.len] at h1
 exact h1
theorem ZOk.keys{κ α:Type}{c:κ→Value}{d:α→Value}{xs:List (κ×α)}{es:Array MapEntry}{k:Nat}{J:Zed κ α}(h:ZAt c d xs es k)(ok:ZOk c d xs es J):((J.map Prod.snd).map Prod.fst).Nodup:=by
 rw[List.map_map]
 refine List.pairwise_map.2 ((List.pairwise_map.1 ok.nd).imp_of_mem fun {z1 z2} h1 h2 hne e=>hne ?_)
 obtain⟨a1,_,a2,_⟩:=h.kv (ok.sub z1 h1)
 obtain⟨b1,_,b2,_⟩:=h.kv (ok.sub z2 h2)
 rw[inj_of_nodup_map h.st.2.2 a1 b1 (by rw[a2,b2];exact congrArg c e)]
theorem mPut_new{κ α:Type}[DecidableEq κ]{a:κ}(u:α):∀{l:List (κ×α)},a∉l.map Prod.fst→mPut l a u=l ++ [(a,u)]
 | [],_=>rfl
 | (k,v)::r,h=>by
  simp only[List.map_cons,List.mem_cons,not_or] at h
  unfold mPut
  rw[if_neg (fun e=>h.1 e.symm),mPut_new u h.2];rfl
theorem fdV_is(S:LnkM)(q:PrM)(i:Int):∃x y t,fdV S q i=.tuple #[.agg (mailC x y t).toArray,.int .i64 (S.drop q i).2]:=by
 cases hf:S.find q i with
 | none=>exact⟨_,_,_,by rw[fdV_none hf,drop_none hf]⟩
 | some t=>exact⟨_,_,_,by rw[fdV_some hf,drop_some hf]⟩
section
variable {p:Nat} {S:LnkM} {b:Nat} {X:List LnG}
theorem ldrop_spec(ok:S.Ok)(x y i:Int):Tri Tryz.prog 84 [.pointer (some ⟨p,0,none⟩),.int .i64 x,.int .i64 y,.int .i64 i] Fr w [lnkH p S]
  (fun v L=>v=.int .i64 (S.drop (x,y) i).2∧L=[lnkH p (S.drop (x,y) i).1]):=by
 refine TF 20 Tryz.func84 rfl ym tabOk rfl rfl ?_
 refine xjp ?_
 refine VG (VK (Lc:=[lnkH p S]) (Lr:=[]) (fun Fr w hF hw _=>ldeliver_spec Fr w ok x y i) rfl rfl ?_)
 rintro _ _ ⟨rfl,rfl⟩
 obtain⟨x',y',t',e⟩:=fdV_is S (x,y) i
 rw[e]
 refine xjp ?_
 refine VG (VO.alloc rfl fun rb=>?_)
 refine VG (VT (vs:=mailC x' y' t') (cs':=mailC x' y' t') 0 rfl rfl rfl rfl (NR _) rfl rfl rfl ?_)
 refine xjp ?_
 exact CR (Ret.tmp 8 rfl rfl (IP 1 rfl Imp.nil).ent ⟨rfl,rfl⟩)
theorem double_none{q:PrM}{i:Int}(h:S.find q i=none):S.double q i=(S,4):=by unfold LnkM.double;rw[h]
theorem double_some{q:PrM}{i:Int}{t:ByteArray}(h:S.find q i=some t):S.double q i=(S.send q t,S.sendE q t):=by unfold LnkM.double;rw[h]
theorem LnkM.Ok.double(ok:S.Ok)(q:PrM)(i:Int):(S.double q i).1.Ok:=by
 unfold LnkM.double
 split
 ·exact ok
 ·exact ok.send _ _
theorem ldouble_spec(ok:S.Ok)(x y i:Int):Tri Tryz.prog 85 [.pointer (some ⟨p,0,none⟩),.int .i64 x,.int .i64 y,.int .i64 i] Fr w [lnkH p S]
  (fun v L=>v=.int .i64 (S.double (x,y) i).2∧L=[lnkH p (S.double (x,y) i).1]):=by
 refine TF 25 Tryz.func85 rfl ym tabOk rfl rfl ?_
 refine VC.opn 0 rfl (HOpn.lnk p S) ?_
 rintro⟨b,X⟩ hX
 dsimp only at hX
 refine xmq ?_
 refine xjp ?_
 refine VG (VV (fun Fr w hF hw hS=>lfind_spec Fr w ok (hS.blk 0 rfl) (hS.mapBlk 1 rfl) (lk_rows (A:=[_,_]) hS) hX x y i) rfl ?_)
 refine VO.ent (L':=[lnkH p S]) (Imp.lnk (K:=[]) b X hX (by rw[List.append_nil];exact Imp.refl)).ent ?_
 cases hf:S.find (x,y) i with
 | none=>
  rw[fdV_none hf]
  refine xjp ?_
  refine VG (VO.alloc rfl fun rb=>?_)
  refine xmx ?_
  refine zqj ?_
  exact CR (Ret.tmp 8 rfl rfl (IP 1 rfl Imp.nil).ent ⟨by rw[double_none hf],by rw[double_none hf]⟩)
 | some t=>
  rw[fdV_some hf]
  refine xjp ?_
  refine VG (VO.alloc rfl fun rb=>?_)
  refine xmy ?_
  refine zox ?_
  refine VG (VL 0 (mailC x y t) rfl rfl rfl rfl ?_)
  refine VO.ent (L':=[lnkH p S,pt rb (mailC x y t) mailT]) (IP 1 rfl Imp.refl).ent ?_
  refine VG (VK (Lc:=[lnkH p S]) (Lr:=[pt rb (mailC x y t) mailT]) (fun Fr w hF hw _=>lsend_spec Fr w ok x y t) rfl rfl ?_)
  rintro _ _ ⟨rfl,rfl⟩
  refine xjp ?_
  exact CR (Ret.tmp 8 rfl rfl (IP 0 rfl Imp.nil).ent ⟨by rw[double_some hf],by rw[double_some hf]⟩)
theorem lcopy_spec(ok:S.Ok)(h:Blk Fr w p (lnkC S b))(hm:MapBlk Fr w iiV txV b X)(hr:∀z∈X,RwIn txC 1 Fr w z.2.2.1 z.2.1)(hX:erX X=S.mail):Tri Tryz.prog 102 [.pointer (some ⟨p,0,none⟩)] Fr w [] (fun v L=>∃q m,m.Perm S.mail∧v=.pointer (some ⟨q,0,none⟩)∧L=[lnkH q ⟨S.cap,m⟩]):=by
 obtain⟨es,clock,g1,g2,g3⟩:=hm.at_
 have hz:ZAt iiV txV X es clock:=⟨g2,g3⟩
 have hXe:∀z∈X,z.2.1.length≤64:=fun z hz=>by
  have:=ok.each (z.1,z.2.1) (by rw[←hX];exact List.mem_map.2 ⟨z,hz,rfl⟩)
  exact this
 refine TF 33 Tryz.func102 rfl ym tabOk rfl rfl ?_
 refine xjq ?_
 refine xmv ?_
 refine zop ?_
 refine xjr ?_
 refine VG (VO.opx (OpT.makeMap iiV txV) ?_)
 rintro _ _ ⟨m,rfl,rfl⟩
 refine VG (VI (LB (pv:=[(0,.int .i64 S.cap),(1,.map (some m))]) (lnkC S m) rfl rfl rfl ym rfl) ?_)
 refine VG (VB (vs:=lnkC S m) rfl fun q=>?_)
 refine xjr ?_
 refine xmz ?_
 rintro _ _ ⟨it,rfl,rfl⟩
 refine xeg ?_
 refine VC.block ?_
 refine VC.loop (σ:=Zed PrM LnV×List LnG) (fun s=>[(3,pV q),(19,pV it)]) (fun s=>itmH it b clock s.1::pt q (lnkC S m) lnkT::mapH iiV txV m s.2::s.2.map txH) (fun s=>ZOk iiV txV X es s.1∧erX s.2=erX (s.1.map Prod.snd)) (fun s=>X.length-s.1.length) ([],[])
  ⟨ZOk.nil,rfl⟩ sbZ ER ?_
 rintro⟨J,Y⟩ ⟨hJ,hY⟩
 dsimp only at hJ hY ⊢
 refine xjp ?_
 refine xna ?_
 rintro v L' (⟨rfl,rfl,hp⟩ | ⟨z,rfl,z1,z2,hok,rfl⟩)
 ·refine xjp ?_
  refine VC.condF rfl (CX ?_)
  refine xjp ?_
  refine CR (Ret.tmp 2 rfl rfl (L':=[lnkH q ⟨S.cap,erX Y⟩]) ?_ ⟨q,erX Y,?_,rfl,rfl⟩)
  ·exact(Imp.lnk (S:=⟨S.cap,erX Y⟩) (K:=[]) m Y rfl (by rw[List.append_nil];exact Imp.app (L:=[_]) (M:=[]) Imp.nil Imp.refl)).ent
  ·rw[hY,←hX];exact hp.map _
 ·refine xjp ?_
  refine VC.condT rfl (CK ?_)
  refine xjp ?_
  refine xnb ?_
  refine xjp ?_
  refine VG (VO.alloc rfl fun kb=>?_)
  refine xnc ?_
  refine xjp ?_
  refine CD (ts 0 6 (.only 6 (.only 7 .nil))) ym yr ?_
  refine xgd ?_
  refine AG (VA.ldA 0 [.int .i64 z.2.1.1,.int .i64 z.2.1.2] rfl rfl rfl rfl rfl ?_)
  refine xgd ?_
  have hzl:=hXe _ z1
  refine AG (AO (OC (Lc:=[]) rfl (.refl _) (fun Fr w hF hs _=>tclone_spec (a:=z.2.2.2.1) (cap:=z.2.2.2.2) Fr w ((hr _ z1).of hF hs) yd)) rfl (fun v L' g=>by obtain⟨_,⟨a1,c1,rfl,rfl⟩,rfl⟩:=g;exact yv) ?_)
  rintro _ _ ⟨_,⟨a1,c1,rfl,rfl⟩,rfl⟩
  refine AG (AO (OpT.mapUpdate 4 (c:=iiV) (d:=txV) (xs:=Y) (a:=z.2.1) (u:=(z.2.2.1,(a1,c1))) keyI Tryz.underlying127 rfl rfl rfl rfl) rfl ?_ ?_)
  ·rintro _ _ ⟨rfl,rfl⟩
   exact yv
  rintro _ _ ⟨rfl,rfl⟩
  refine xjs ?_
  have hnk:z.2.1∉Y.map Prod.fst:=fun hh=>by
   have e1:Y.map Prod.fst=(J.map Prod.snd).map Prod.fst:=by
    have:=congrArg (List.map Prod.fst) hY
    unfold erX at this
    rw[List.map_map,List.map_map] at this
    exact this
   rw[e1] at hh
   have:=ZOk.keys hz hok
   rw[List.map_append,List.map_append] at this
   exact(List.nodup_append.1 this).2.2 _ hh _ (List.mem_singleton.2 rfl) rfl
  have b2:=ZOk.len hz hok
  rw[List.length_append] at b2
  refine⟨(J ++ [z],Y ++ [(z.2.1,(z.2.2.1,(a1,c1)))]),⟨hok,by show erX (Y++_)=erX ((J ++ [z]).map Prod.snd);rw[erX,List.map_append,List.map_append,erX,List.map_append];exact congrArg (· ++ _) hY⟩,by show X.length-(J ++ [z]).length<X.length-J.length;rw[List.length_append];simp at b2 ⊢;omega,sbZ,?_⟩
  dsimp only
  rw[mPut_new _ hnk,List.map_append]
  refine Imp.ent ?_
  refine IP 2 rfl (IP 2 rfl (IP 2 rfl ?_))
  exact(Imp.perm (List.perm_append_comm (l₁:=[_,_]) (l₂:=Y.map txH))).trans (Imp.app Imp.refl (IP 0 rfl Imp.nil))
end
end Cl
namespace Cl
open Go Vg T Api Ch Conf Rep
structure StpM where
 kind:Int
 a:Int
 b:Int
 c:Int
 op:OpM
structure CluM where
 conf:ConfM
 now:Int
 mas:MasM
 nodes:List (Option RepM)
 clis:List CliM
 lnk:LnkM
 his:HisM
 done:List EntryM
def newC(c:ConfM):CluM:=⟨c,0,newM c,(List.range c.nodes.toNat).map fun(n:Nat)=>some (newR c n false),(List.range c.clients.toNat).map fun(n:Nat)=>newCl c n,⟨c.link,[]⟩,newH,[]⟩
def post1(from_:Int)(l:LnkM)(s:SdM):LnkM:=match putM s.2.1 s.2.2 with
 | none=>l
 | some t=>l.send (from_,s.1) (bT t)
def postL(from_:Int)(l:LnkM)(S:List SdM):LnkM:=S.foldl (post1 from_) l
def CluM.post(C:CluM)(from_:Int)(S:List SdM):CluM:={ C with lnk:=postL from_ C.lnk S }
def CluM.node(C:CluM)(n:Int):Option RepM:=if n<0 then none else (C.nodes[n.toNat]?).getD none
def CluM.upE(C:CluM)(n:Int):Int:=if n<0∨(C.nodes.length:Int)≤n then 4 else if (C.node n).isNone then 61 else 0
def CluM.setNode(C:CluM)(n:Int)(r:Option RepM):CluM:={ C with nodes:=C.nodes.set n.toNat r }
def CluM.cli(C:CluM)(n:Int):Option CliM:=if n<0 then none else C.clis[n.toNat]?
def CluM.setCli(C:CluM)(n:Int)(s:CliM):CluM:={ C with clis:=C.clis.set n.toNat s }
def CluM.dead(C:CluM)(c:Int):Int:=min (C.now+min (max c 0) 1099511627776) 1099511627776
def CluM.call(C:CluM)(s:StpM):CluM×Int:=match C.cli s.a with
 | none=>(C,4)
 | some x=>
  if x.callE s.op s.b (C.dead s.c)≠0 then (C,x.callE s.op s.b (C.dead s.c))
  else
   let y:=x.call s.op s.b (C.dead s.c) C.now
   (({ C.setCli s.a y.1 with his:=C.his.call s.a y.1.seq s.op }:CluM).post (32+s.a) y.2,0)
def CluM.tickN(C:CluM)(n:Nat):CluM:=match (C.nodes[n]?).getD none with
 | none=>C
 | some r=>(C.setNode n (some (tickR r).1)).post n (ofS (tickR r).2)
def CluM.tickC(C:CluM)(n:Nat):CluM:=match C.clis[n]? with
 | none=>C
 | some s=>(C.setCli n (s.tick C.now).1).post (32+n) (s.tick C.now).2
def CluM.tick(C:CluM):CluM:=
 let C:={ C with now:=min (C.now+1) 1099511627776 }
 let C:=(List.range C.nodes.length).foldl CluM.tickN C
 (List.range C.clis.length).foldl CluM.tickC C
def CluM.takes(C:CluM)(from_ to:Int)(f:FrameM)(ms:List MemM):CluM:=
 if to=16 then ({ C with mas:=(C.mas.take from_ f C.now).1 }).post to (C.mas.take from_ f C.now).2
 else match C.node to with
  | some r=>(C.setNode to (some (takeR r from_ f ms C.now).1)).post to (ofS (takeR r from_ f ms C.now).2)
  | none=>match C.cli (to-32) with
   | some s=>(C.setCli (to-32) (s.take f ms C.now).1).post to (s.take f ms C.now).2
   | none=>C
def CluM.got(C:CluM)(from_ to:Int)(t:ByteArray):CluM:=match getM (sB t) with
 | some (f,ms)=>C.takes from_ to f ms
 | none=>C
def CluM.deliver(C:CluM)(p:PrM)(i:Int):CluM×Int:=match C.lnk.find p i with
 | none=>(C,4)
 | some t=>(({ C with lnk:=C.lnk.without p i }:CluM).got p.1 p.2 t,0)
def CluM.back(C:CluM)(n:Int):CluM:=
 if C.upE n=61 then
  let r:=takeR (newR C.conf n true) 16 (cfgF C.mas.ch) C.mas.ch.ms C.now
  (C.setNode n (some r.1)).post n (ofS r.2)
 else C
def CluM.join(C:CluM)(n:Int):CluM×Int:=
 let j:=C.mas.join n C.now
 if j.2.2≠0 then (C,j.2.2) else ((({ C with mas:=j.1 }:CluM).back n).post 16 j.2.1,0)
def CluM.step(C:CluM)(s:StpM):CluM×Int:=
 if s.kind=1 then C.call s
 else if s.kind=2 then match C.node s.a with
  | none=>(C,C.upE s.a)
  | some r=>((C.setNode s.a (some (stepR r C.now).1)).post s.a (ofS (stepR r C.now).2),0)
 else if s.kind=3 then (C.tick,0)
 else if s.kind=4 then C.deliver (s.a,s.b) s.c
 else if s.kind=5 then ({ C with lnk:=(C.lnk.drop (s.a,s.b) s.c).1 },(C.lnk.drop (s.a,s.b) s.c).2)
 else if s.kind=6 then ({ C with lnk:=(C.lnk.double (s.a,s.b) s.c).1 },(C.lnk.double (s.a,s.b) s.c).2)
 else if s.kind=7 then if C.upE s.a≠0 then (C,C.upE s.a) else (C.setNode s.a none,0)
 else if s.kind=8 then (({ C with mas:=(C.mas.suspect s.a).1 }:CluM).post 16 (C.mas.suspect s.a).2.1,(C.mas.suspect s.a).2.2)
 else if s.kind=9 then C.join s.a
 else if s.kind=10 then (({ C with mas:=(C.mas.drain s.a).1 }:CluM).post 16 (C.mas.drain s.a).2.1,(C.mas.drain s.a).2.2)
 else if s.kind=11 then (({ C with mas:=(C.mas.tick C.now).1 }:CluM).post 16 (C.mas.tick C.now).2,0)
 else (C,2)
def endH(h:HisM)(x:CliM×Nat):HisM:=match x.1.outcome with
 | none=>h
 | some o=>h.end_ (x.2:Int) x.1.seq o
def lastMem(ms:List MemM):Int:=match ms.getLast? with
 | none=>-1
 | some m=>m.1
def doneN(d:List EntryM)(x:Option RepM×Nat):List EntryM:=match x.1 with
 | none=>d
 | some r=>if r.since=0∨r.ch.ms.length=0∨lastMem r.ch.ms≠x.2∨r.win.done≤d.length then d else d++(r.log.take r.win.done.toNat).drop d.length
def CluM.behind(C:CluM):CluM:={ C with his:=C.clis.zipIdx.foldl endH C.his,done:=C.nodes.zipIdx.foldl doneN C.done }
def CluM.do_(C:CluM)(s:StpM):CluM×Int:=((C.step s).1.behind,(C.step s).2)
def stS(k a b:Int):StpM:=⟨k,a,b,0,opZe⟩
end Cl
namespace Cl
open Go Vg T Api Ch Rep Conf Lg
attribute [local irreducible] VO VC VA
abbrev cluT:TypeId:=50
abbrev rpT:TypeId:=81
abbrev cpT:TypeId:=84
abbrev NdG:=Option (Nat×RepM)
abbrev CiG:=Nat×CliM
def nodV:NdG→Value
 | none=>.pointer none
 | some x=>.pointer (some ⟨x.1,0,none⟩)
def nodC(x:NdG):List Value:=[nodV x]
theorem nodC_len(x:NdG):(nodC x).length=1:=rfl
def nodP:NdG→HP
 | none=>hpure True
 | some x=>repH x.1 x.2
def cliV(x:CiG):List Value:=[.pointer (some ⟨x.1,0,none⟩)]
theorem cliV_len(x:CiG):(cliV x).length=1:=rfl
def cliP(x:CiG):HP:=cliH x.1 x.2
structure CluS where
 qa:Option Addr
 qc:Nat
 mp:Nat
 nb:Nat
 nc:Nat
 nx:List Value
 nr:List NdG
 cb:Nat
 cc:Nat
 cx:List Value
 cr:List CiG
 lp:Nat
 hp:Nat
 da:Option Addr
 dc:Nat
def cluC(C:CluM)(y:CluS):List Value:=C.conf.cells y.qa y.qc ++ [.int .i64 C.now,.pointer (some ⟨y.mp,0,none⟩),.slice (some ⟨y.nb,0,none⟩) y.nr.length y.nc,.slice (some ⟨y.cb,0,none⟩) y.cr.length y.cc,.pointer (some ⟨y.lp,0,none⟩),.pointer (some ⟨y.hp,0,none⟩),.slice y.da C.done.length y.dc]
def cluL(p:Nat)(C:CluM)(y:CluS):List HP:=[pt p (cluC C y) cluT,intH y.qa y.qc C.conf.qs,masH y.mp C.mas,pt y.nb (flat nodC y.nr++y.nx) rpT,pt y.cb (flat cliV y.cr++y.cx) cpT,lnkH y.lp C.lnk,hisH y.hp C.his,slH entT 7 y.da C.done.length y.dc (flat entC C.done),hsep (y.nr.map nodP),hsep (y.cr.map cliP)]
structure CluFit(C:CluM)(y:CluS):Prop where
 nr:y.nr.map (Option.map Prod.snd)=C.nodes
 cr:y.cr.map Prod.snd=C.clis
 qc:C.conf.qs.length≤y.qc
def cluH(p:Nat)(C:CluM):HP:=hex fun y:CluS=>hsep (hpure (CluFit C y)::cluL p C y)
theorem HOpn.clu(p:Nat)(C:CluM):HOpn (ι:=CluS) (cluH p C) (fun y=>CluFit C y) (fun y=>cluL p C y):=fun w ids ⟨x,h⟩ hn=>by
 obtain⟨i1,i2,rfl,⟨rfl,h1⟩,h2⟩:=h
 exact⟨x,h1,i2,h2,hn,fun _ h=>h⟩
theorem Imp.clu{p:Nat}{C:CluM}{L K:List HP}(y:CluS)(hy:CluFit C y)(h:Imp L (cluL p C y++K)):Imp L (cluH p C::K):=Imp.ex (f:=fun y:CluS=>hsep (hpure (CluFit C y)::cluL p C y)) y (Imp.sep (Imp.pure hy h))
theorem clu_in{Fr:Nat→Prop}{w:World}{p:Nat}{C:CluM}(h:SatIn Fr [cluH p C] w):∃y,CluFit C y∧SatIn Fr (cluL p C y) w:=by
 obtain⟨y,hy⟩:=h.ex
 have hs:=hy.sep
 exact⟨y,hs.pure 0 rfl,SatIn.tail hs⟩
def LnkM.Adr(S:LnkM):Prop:=∀x∈S.mail,adrB x.1.1=true∧adrB x.1.2=true
structure CluM.Ok(C:CluM)(b e:Nat):Prop where
 cf:C.conf=fitM C.conf
 n0:0≤C.now
 n1:C.now≤1099511627776
 mas:C.mas.Ok
 nl:C.nodes.length=C.conf.nodes.toNat
 cl:C.clis.length=C.conf.clients.toNat
 lnk:C.lnk.Ok
 his:C.his.Ok
 fit:∀r,some r∈C.nodes→r.Fit
 last:∀r,some r∈C.nodes→r.rds.last≤b
 cok:∀s∈C.clis,s.Ok
 seq:∀s∈C.clis,s.seq≤b
 rc:C.his.recs.length≤b
 ev:C.his.events≤e
 dn:C.done.length≤4096
 adr:C.lnk.Adr
section
variable {p:Nat} {C:CluM} {y:CluS}
theorem umade_spec(h:Blk Fr w p (cluC C y)):Tri Tryz.prog 41 [.pointer (some ⟨p,0,none⟩)] Fr w [] (fun v L=>v=.bool true∧L=[]):=by
 refine TF 12 Tryz.func41 rfl ym tabOk rfl rfl ?_
 refine zqd ?_
 refine xjr ?_
 exact xfa
theorem node_len(fit:CluFit C y):y.nr.length=C.nodes.length:=by rw[←fit.nr,List.length_map]
theorem cli_len(fit:CluFit C y):y.cr.length=C.clis.length:=by rw[←fit.cr,List.length_map]
theorem node_at(fit:CluFit C y){k:Nat}{x:NdG}(h:y.nr[k]?=some x):C.node (k:Int)=x.map Prod.snd∧C.nodes[k]?=some (x.map Prod.snd):=by
 have:C.nodes[k]?=some (x.map Prod.snd):=by rw[←fit.nr,List.getElem?_map,h];rfl
 refine⟨?_,this⟩
 unfold CluM.node
 rw[if_neg yd,Int.toNat_natCast,this];rfl
theorem cli_at(fit:CluFit C y){k:Nat}{x:CiG}(h:y.cr[k]?=some x):C.cli (k:Int)=some x.2∧C.clis[k]?=some x.2:=by
 have:C.clis[k]?=some x.2:=by rw[←fit.cr,List.getElem?_map,h];rfl
 refine⟨?_,this⟩
 unfold CluM.cli
 rw[if_neg yd,Int.toNat_natCast,this]
theorem nod_cell{l:List NdG}{k:Nat}{x:NdG}{r:List Value}(h:l[k]?=some x):(flat nodC l++r)[0+k*1]?=some (nodV x):=by rw[Nat.zero_add];exact flat_cell (j:=0) nodC_len h rfl r
theorem cli_cell{l:List CiG}{k:Nat}{x:CiG}{r:List Value}(h:l[k]?=some x):(flat cliV l++r)[0+k*1]?=some (.pointer (some ⟨x.1,0,none⟩)):=by rw[Nat.zero_add];exact flat_cell (j:=0) cliV_len h rfl r
theorem up_spec(fit:CluFit C y)(h:Blk Fr w p (cluC C y))(hr:Blk Fr w y.nb (flat nodC y.nr++y.nx))(n:Int):Tri Tryz.prog 56 [.pointer (some ⟨p,0,none⟩),.int .i64 n] Fr w [] (fun v L=>v=.int .i64 (C.upE n)∧L=[]):=by
 have hl:=node_len fit
 refine TF 26 Tryz.func56 rfl ym tabOk rfl rfl ?_
 refine xjq ?_
 by_cases h0:n<0
 ·refine VG (VY 8 true rfl (DT h0) ?_)
  refine xjr ?_
  refine xdz ?_
  refine xjq ?_
  exact CR (Ret.tmp 4 rfl rfl ER ⟨by rw[CluM.upE,if_pos (.inl h0)],rfl⟩)
 obtain⟨k,rfl⟩:∃k:Nat,n=k:=⟨n.toNat,by omega⟩
 refine VG (VY 8 false rfl (DF h0) ?_)
 refine xjr ?_
 refine CP (p:=(y.nr.length:Int)≤k) rfl (fun h1=>?_) (fun h1=>?_)
 ·refine xjq ?_
  exact CR (Ret.tmp 4 rfl rfl ER ⟨by rw[CluM.upE,if_pos (.inr yd)],rfl⟩)
 have hk:k<y.nr.length:=by omega
 have hk2:y.nr[k]?=some y.nr[k]:=GE hk
 generalize y.nr[k]=x at hk2
 obtain⟨e1,e2⟩:=node_at fit hk2
 have hu:C.upE (k:Int)=if x.isNone then 61 else 0:=by
  unfold CluM.upE
  rw[if_neg yd,e1]
  cases x<;>rfl
 refine xjr ?_
 refine xea ?_
 refine VG (VO.load rfl rfl (RdL.blk hr (nod_cell hk2)) ?_)
 cases x with
 | none=>
  refine zos ?_
  exact CR (Ret.tmp 4 rfl rfl ER ⟨by rw[hu];rfl,rfl⟩)
 | some z=>
  show VO _ _ _ _ (putE (some 24) (.pointer (some ⟨z.1,0,none⟩)) _) _ _
  refine zop ?_
  refine xjq ?_
  exact CR (Ret.tmp 4 rfl rfl ER ⟨by rw[hu];rfl,rfl⟩)
end
end Cl
namespace Cl
open Go Vg T Api Ch Rep Conf Lg
attribute [local irreducible] VO VC VA
structure SdIn(Fr:Nat→Prop)(w:World)(a:Option Addr)(X:List SdG):Prop where
 rows:RwIn sdC 30 Fr w a X
 mems:∀x∈X,RwIn memC 2 Fr w x.2.1 x.1.2.2
 len:X.length≤1000000
 ml:∀x∈X,x.1.2.2.length≤1000000
theorem sd_in{Fr:Nat→Prop}{w:World}{A:List HP}{a:Option Addr}{c:Nat}{X:List SdG}(h:SatIn Fr (slH sndT 30 a X.length c (flat sdC X)::(X.map memH++A)) w)(hl:X.length≤1000000)(hm:∀x∈X.map Prod.fst,x.2.2.length≤1000000):SdIn Fr w a X:=
 ⟨RwIn.slH sdC_len (h.at_ 0 rfl),fun x hx=>by
  obtain⟨i,hi,rfl⟩:=List.getElem_of_mem hx
  exact RwIn.slH memC_len (h.at_ (1+i) (by rw[show 1+i=i+1 from by omega,List.getElem?_cons_succ,List.getElem?_append_left (by rw[List.length_map];exact hi),List.getElem?_map,GE hi];rfl)),hl,fun x hx=>hm x.1 (List.mem_map.2 ⟨x,hx,rfl⟩)⟩
theorem postL_snoc(from_:Int)(l:LnkM)(S:List SdM)(s:SdM):postL from_ l (S ++ [s])=post1 from_ (postL from_ l S) s:=by unfold postL;rw[List.foldl_append];rfl
theorem LnkM.Ok.post1{S:LnkM}(ok:S.Ok)(from_:Int)(s:SdM):(Cl.post1 from_ S s).Ok:=by
 unfold Cl.post1
 split
 ·exact ok
 ·exact ok.send _ _
theorem LnkM.Ok.postL(from_:Int):∀(l:List SdM) {S:LnkM},S.Ok→(Cl.postL from_ S l).Ok
 | [],_,ok=>ok
 | s::l,S,ok=>LnkM.Ok.postL from_ l (ok.post1 from_ s)
theorem sd_frame(x:SdG):((sdC x).drop 1).take 29=x.1.2.1.cells (x.2.1,x.1.2.2.length,x.2.2):=rfl
theorem usend_spec{p:Nat}{C:CluM}{y:CluS}{S:LnkM}(h:Blk Fr w p (cluC C y))(ok:S.Ok)(from_:Int){a:Option Addr}{c:Nat}{X:List SdG}(hX:SdIn Fr w a X):Tri Tryz.prog 79 [.pointer (some ⟨p,0,none⟩),.int .i64 from_,.slice a X.length c] Fr w [lnkH y.lp S]
  (fun v L=>v=.tuple #[]∧L=[lnkH y.lp (postL from_ S (X.map Prod.fst))]):=by
 have hlen:=hX.len
 refine TF 35 Tryz.func79 rfl ym tabOk rfl rfl ?_
 refine xjq ?_
 refine VC.loop (σ:=Nat) (fun k=>[(0,pV p),(1,.int .i64 from_),(10,.slice a X.length c),(11,.int .i64 X.length),(12,.int .i64 (k:Int))]) (fun k=>[lnkH y.lp (postL from_ S ((X.take k).map Prod.fst))]) (fun k=>k≤X.length) (fun k=>X.length-k) 0
  (Nat.zero_le _) sbZ ER ?_
 rintro k hk
 refine xjq ?_
 refine CP (p:=(k:Int)<X.length) rfl (fun h1=>CK ?_) (fun h1=>CX ?_)
 rotate_left
 ·obtain rfl:k=X.length:=by omega
  exact Ret.void rfl ER ⟨rfl,by rw[List.take_length]⟩
 have hkl:k<X.length:=by omega
 have hx:X[k]?=some X[k]:=GE hkl
 have hxm:X[k]∈X:=List.getElem_mem hkl
 generalize X[k]=x at hx hxm
 obtain⟨xb,xo,rfl,ra,rc⟩:=RwIn.rd (X:=⟨Tryz.prog,tab,tabOk,35,Fr,w⟩) hX.rows hx
 have okk:(postL from_ S ((X.take k).map Prod.fst)).Ok:=LnkM.Ok.postL from_ _ ok
 have htk:(X.take (k+1)).map Prod.fst=(X.take k).map Prod.fst ++ [x.1]:=by
  rw[List.take_add_one,hx,List.map_append];rfl
 have hxml:=hX.ml x hxm
 refine xjq ?_
 refine xnd ?_
 refine xdk ?_
 refine VG (VO.alloc rfl fun sb=>?_)
 refine VG (VT (vs:=sdC x) (cs':=sdC x) 0 rfl rfl rfl rfl (NR _) rfl rfl rfl ?_)
 refine xjq ?_
 refine VG (VL 0 (x.1.2.1.cells (x.2.1,x.1.2.2.length,x.2.2)) rfl rfl rfl (sd_frame x) ?_)
 refine VG (VO.callP (φ:=fpR (putM x.1.2.1 x.1.2.2)) (fun Fr w hF hw _=>fput_spec Fr w ((hX.mems x hxm).of hF hw) hxml) rfl ?_)
 intro v hv
 have fin:∀S',S'=post1 from_ (postL from_ S ((X.take k).map Prod.fst)) x.1→S'=postL from_ S ((X.take (k+1)).map Prod.fst):=fun S' h=>by rw[htk,postL_snoc,h]
 cases hp:putM x.1.2.1 x.1.2.2 with
 | none=>
  rw[hp] at hv
  obtain⟨e,he,rfl⟩:=hv
  have h1:=fin (postL from_ S ((X.take k).map Prod.fst)) (by unfold post1;rw[hp])
  refine xjq ?_
  refine CE rfl (fun k0=>absurd k0 he) (fun _=>CK ?_)
  refine xjq ?_
  refine xdl ?_
  refine xjq ?_
  exact xne
 | some t=>
  rw[hp] at hv
  obtain rfl:=hv
  have h1:=fin ((postL from_ S ((X.take k).map Prod.fst)).send (from_,x.1.1) (bT t)) (by unfold post1;rw[hp])
  refine zos ?_
  refine CD (ts 0 9 (.only 9 .nil)) ym yr ?_
  refine xhr ?_
  refine AG (AI rfl (LB (pv:=[(0,.int .i64 from_),(1,.int .i64 x.1.1),(2,.string (bT t))]) (mailC from_ x.1.1 (bT t)) rfl rfl rfl ym rfl) ?_)
  refine AG (AQ 1 rfl (fun Fr w hF hs hS=>lsend_spec Fr w okk from_ x.1.1 (bT t)) rfl rfl (ψ:=fun v H=>v=.int .i64 ((postL from_ S ((X.take k).map Prod.fst)).sendE (from_,x.1.1) (bT t))∧H=lnkH y.lp ((postL from_ S ((X.take k).map Prod.fst)).send (from_,x.1.1) (bT t))) yy ?_ ?_)
  ·rintro _ _ ⟨rfl,rfl⟩
   exact(by(try refine Pd.st ?_);(repeat(first|exact Pd.nil|exact Pd.fnil|refine Pd.inner ?_|refine Pd.skip yr ?_|refine zf (zo 0 rfl rfl) ?_|refine zf (zo 1 rfl rfl) ?_|refine zf (zm 0 rfl rfl) ?_|refine zf (zm 1 rfl rfl) ?_|refine zf (RdL.blk h rfl) ?_|refine zf (h) ?_|refine zc (zo 0 rfl rfl) ?_|refine zc (zo 1 rfl rfl) ?_|refine zc (zm 0 rfl rfl) ?_|refine zc (zm 1 rfl rfl) ?_|refine zc (RdL.blk h rfl) ?_|refine zc (h) ?_)))
  rintro _ _ ⟨rfl,rfl⟩
  refine xjs ?_
  refine xjq ?_
  refine xdl ?_
  refine xjq ?_
  exact xne
end Cl
namespace Cl
open Go Vg T Api Ch Rep Conf Lg Rd
attribute [local irreducible] VO VC VA
theorem refs_len(e:Int)(l:List FrameM)(r:Int):(refs e l r).length=l.length:=by rw[refs,List.length_map]
theorem step_few{R:RepM}(h:R.Ok)(now:Int):(stepR R now).2.length≤300000:=by
 have h1:(expS R now).length≤16:=by
  unfold expS
  rw[refs_len,List.length_map]
  have:=List.length_filter_le (fun y=>!lives now y) R.rds.l
  have:=h.rl
  have:=h.rc1
  omega
 have h2:(step2 R now).2.length≤65*4200:=by
  unfold step2
  split
  ·exact serveLoop_len now 65 (expR_ok h now)
  ·simp
 have h3:(step3 R now).2.length≤4200:=by
  unfold step3
  split
  ·show(passN _ _).2.length≤_
   have ok2:=(step2_ok h now).win
   have:=ok2.last1
   have:=ok2.sent0
   rw[passN_len]
   unfold passK
   omega
  ·simp
 show List.length (_++_++_)≤_
 rw[List.length_append,List.length_append]
 omega
theorem tick_few(R:RepM):(tickR R).2.length≤5:=by
 have gl:=greetM_len R
 have bl:=baseM_len R
 have ml:R.masterM.length=1:=rfl
 have x1:(if (!R.rds.l.isEmpty)=true then [((16:Int),confirmF R.ch.epoch R.rds.lastI)] else []).length≤1:=by split<;>simp
 have x2:(if R.drainsB=true∧R.win.done=R.win.last then [((16:Int),drainedF R.ch.epoch)] else []).length≤1:=by split<;>simp
 show List.length (_++_++_++_++_)≤_
 rw[List.length_append,List.length_append,List.length_append,List.length_append]
 omega
theorem enter_few{R:RepM}(h:R.Fit){c:ChM}(hc:ChS c):(enterR R c).2.length≤5000:=by
 have h1:(entG R c).length≤80:=by
  unfold entG
  rw[List.length_append,refs_len,refs_len,List.length_map]
  have:=gone_few h.ok maxI
  have:=h.ok.rl
  have:=h.ok.rc1
  omega
 have h2:=finishM_len (ent5_ok h.ok hc h.cap0 h.cap1)
 have h3:=greetM_len (ent5 R c).finishR
 have h4:=baseM_len (ent5 R c).finishR
 have h5:(ent5 R c).finishR.masterM.length=1:=rfl
 show List.length (_++_++_++_++_)≤_
 rw[List.length_append,List.length_append,List.length_append,List.length_append]
 omega
theorem take_few{R:RepM}(h:R.Fit)(from_:Int)(f:FrameM)(ms:List MemM)(now:Int):(takeR R from_ f ms now).2.length≤5000:=by
 unfold takeR
 split
 ·split
  ·simp
  split
  ·simp
  split
  ·unfold readR;split<;>simp
  ·unfold updateR;split<;>(try split)<;>(try split)<;>simp
 split
 ·split
  ·rename_i h1;exact enter_few h ⟨by have:=chE_len h1.1.2;omega⟩
  ·simp
 split
 ·split
  ·unfold forwardR
   have g1:=greetM_len R
   have g2:=greetM_len (pushE R f.entry).finishR.becomeR
   have g3:=becomeM_len (pushE R f.entry).finishR
   split
   ·rename_i h1
    have g4:=finishM_len (pushE_ok h.ok (e:=f.entry) h1.2 (fwd_room h1.1))
    show List.length (_++_++_)≤_
    rw[List.length_append,List.length_append]
    omega
   ·show R.greetM.length≤_;omega
  ·simp
 split
 ·split
  ·show(if _ then _ else _:List SndM).length≤_
   split
   ·have:=greetM_len { ack2 R f with win:=(ack2 R f).win.ack f.index };omega
   ·simp
  ·simp
 split
 ·split
  ·have:=becomeM_len (baseR R f.index);show(RepM.becomeM _).length≤_;omega
  ·simp
 split
 ·split
  ·show(sureS R f.index).length≤_
   unfold sureS
   rw[List.length_map]
   have:=List.length_filter_le (fun y=>!surely f.index y) R.rds.l
   have:=h.ok.rl
   have:=h.ok.rc1
   omega
  ·simp
 ·simp
theorem ofS_len(S:List SndM):(ofS S).length=S.length:=List.length_map ..
theorem ofS_ms(S:List SndM):∀x∈ofS S,x.2.2.length≤7:=fun x hx=>by
 obtain⟨y,_,rfl⟩:=List.mem_map.1 hx
 exact Nat.zero_le _
structure FewS(S:List SdM):Prop where
 n:S.length≤300000
 m:∀x∈S,x.2.2.length≤7
theorem FewS.of{S:List SndM}(h:S.length≤300000):FewS (ofS S):=⟨by rw[ofS_len];exact h,ofS_ms S⟩
theorem FewS.nil:FewS []:=⟨by decide,fun _ h=>absurd h List.not_mem_nil⟩
theorem FewS.one{to:Int}{f:FrameM}{ms:List MemM}(h:ms.length≤7):FewS [(to,f,ms)]:=⟨by show 1≤300000;omega,fun x hx=>by rw[List.mem_singleton.1 hx];exact h⟩
theorem MasM.Ok.all_few{M:MasM}(ok:M.Ok):FewS M.all:=⟨by have:=ok.n1;unfold MasM.all;rw[List.length_map,List.length_range];omega,fun x hx=>by
 obtain⟨n,_,rfl⟩:=List.mem_map.1 hx
 exact ok.ml⟩
theorem MasM.Ok.take_few{M:MasM}(ok:M.Ok)(from_:Int)(f:FrameM)(now:Int):FewS (M.take from_ f now).2:=by
 have c1:∀n,FewS [cfgS M.ch n]:=fun n=>FewS.one ok.ml
 have c2:∀n,(M.heardAt n now).ch=M.ch:=fun _=>rfl
 unfold MasM.take
 split
 ·exact c1 _
 split
 ·exact .nil
 split
 ·split
  ·exact c1 _
  split<;>exact .nil
 split
 ·split
  ·exact c1 _
  split
  ·exact FewS.one (Nat.zero_le _)
  ·exact .nil
 split
 ·split
  ·rename_i h;exact(ok.gone h.2.2).all_few
  ·exact .nil
 ·exact .nil
theorem MasM.Ok.tick_few{M:MasM}(ok:M.Ok)(now:Int):FewS (M.tick now).2:=by
 have:=(ok.tick now).all_few
 unfold MasM.tick at this ⊢
 dsimp only at this ⊢
 split
 ·exact this
 ·exact .nil
theorem MasM.Ok.suspect_few{M:MasM}(ok:M.Ok)(n:Int):FewS (M.suspect n).2.1∧(M.suspect n).1.Ok:=by
 unfold MasM.suspect
 split
 ·exact⟨.nil,ok⟩
 split
 ·exact⟨.nil,ok⟩
 ·rename_i h
  have:=ok.gone (n:=n) yc
  exact⟨this.all_few,this⟩
theorem MasM.Ok.drain_few{M:MasM}(ok:M.Ok)(n:Int):FewS (M.drain n).2.1∧(M.drain n).1.Ok:=by
 unfold MasM.drain
 split
 ·exact⟨.nil,ok⟩
 split
 ·exact⟨.nil,ok⟩
 ·rename_i h
  have:=ok.drained (n:=n) yc
  exact⟨this.all_few,this⟩
theorem MasM.Ok.join_few{M:MasM}(ok:M.Ok)(n now:Int):FewS (M.join n now).2.1∧(M.join n now).1.Ok:=by
 unfold MasM.join
 split
 ·exact⟨.nil,ok⟩
 split
 ·exact⟨.nil,ok⟩
 ·rename_i h
  have:=ok.joined (n:=n) yc now
  exact⟨this.all_few,this⟩
theorem ask_few:FewS askS:=FewS.one (Nat.zero_le _)
theorem try_few(s:CliM)(now:Int):FewS (s.try_ now).2:=FewS.one (Nat.zero_le _)
theorem goOn_few(s:CliM)(r now:Int):FewS (s.goOn r now).2:=by
 unfold CliM.goOn CliM.giveUp
 split
 ·exact ask_few
 split
 ·exact .nil
 ·exact ask_few
theorem CliM.call_few(s:CliM)(o:OpM)(cl d now:Int):FewS (s.call o cl d now).2:=by
 unfold CliM.call
 split
 ·exact .nil
 split
 ·exact try_few _ _
 ·exact ask_few
theorem CliM.tick_few(s:CliM)(now:Int):FewS (s.tick now).2:=by
 unfold CliM.tick
 split
 ·split
  ·exact goOn_few _ _ _
  ·exact .nil
 split
 ·split
  ·exact .nil
  split
  ·exact ask_few
  ·exact ask_few
 split
 ·split
  ·exact ask_few
  ·exact .nil
 ·exact .nil
theorem CliM.take_few(s:CliM)(f:FrameM)(ms:List MemM)(now:Int):FewS (s.take f ms now).2:=by
 unfold CliM.take
 split
 ·split
  ·exact .nil
  split
  ·exact try_few _ _
  ·exact .nil
 split
 ·split<;>exact .nil
 split
 ·split
  ·unfold CliM.refused
   split
   ·exact goOn_few _ _ _
   split
   ·exact ask_few
   ·exact goOn_few _ _ _
  ·exact .nil
 ·exact .nil
def sentP(a:Option Addr)(c:Nat)(X:List SdG):HP:=hsep (slH sndT 30 a X.length c (flat sdC X)::X.map memH)
def sentH(H:HP)(a:Option Addr)(c:Nat)(X:List SdG):HP:=hsep [H,sentP a c X]
def SentV1(S:List SdM)(H:HP)(v:Value)(K:HP):Prop:=∃(X:List SdG) (a:Option Addr) (c:Nat),X.map Prod.fst=S∧v=.slice a X.length c∧K=sentH H a c X
def SentW1(S:List SdM)(e:Int)(H:HP)(v:Value)(K:HP):Prop:=∃(X:List SdG) (a:Option Addr) (c:Nat),X.map Prod.fst=S∧v=.tuple #[.slice a X.length c,.int .i64 e]∧K=sentH H a c X
def SentV(S:List SdM)(H:HP)(v:Value)(L:List HP):Prop:=∃K,L=[K]∧SentV1 S H v K
def SentW(S:List SdM)(e:Int)(H:HP)(v:Value)(L:List HP):Prop:=∃K,L=[K]∧SentW1 S e H v K
theorem SdIn.at_{Fr:Nat→Prop}{w:World}{L:List HP}{a:Option Addr}{c:Nat}{X:List SdG}{S:List SdM}(i:Nat){H:HP}(h:SatIn Fr L w)(hL:L[i]?=some (sentH H a c X))(hX:X.map Prod.fst=S)(hS:FewS S):SdIn Fr w a X:=by
 subst hX
 have hh:=(((h.at_ i hL).sep).at_ 1 rfl).sep
 have hn:=hS.n
 rw[List.length_map] at hn
 exact sd_in (A:=[]) (c:=c) ycg yd (fun x hx=>by have:=hS.m x hx;omega)
def toX(S:List SndM):List SdG:=S.map fun x=>((x.1,x.2,[]),(none,0))
theorem toX_fst(S:List SndM):(toX S).map Prod.fst=ofS S:=by unfold toX ofS;rw[List.map_map];rfl
theorem toX_len(S:List SndM):(toX S).length=S.length:=List.length_map ..
theorem toX_flat(S:List SndM):flat sdC (toX S)=flat sndC S:=by
 unfold flat toX
 rw[List.map_map]
 rfl
theorem toX_mems{L:List HP}:∀(S:List SndM),Imp L ((toX S).map memH)
 | []=>Imp.nil
 | s::S=>by
  show Imp L (slH memT 2 none 0 0 []::(toX S).map memH)
  exact Imp.slNil (toX_mems S)
theorem sentV_of{S:List SndM}{v:Value}{L:List HP}{H:HP}(h:sent S v L [H]):∃L2,SentV (ofS S) H v L2∧Imp L L2:=by
 obtain⟨a,c,rfl,rfl⟩:=h
 refine⟨[sentH H a c (toX S)],⟨_,rfl,toX S,a,c,toX_fst S,by rw[toX_len],rfl⟩,Imp.sep (Imp.cons (Imp.sep ?_))⟩
 show Imp [_] ((slH sndT 30 a (toX S).length c (flat sdC (toX S))::List.map memH (toX S)) ++ [])
 rw[List.append_nil,toX_len,toX_flat]
 exact Imp.cons (toX_mems S)
theorem sentV_ofX{S:List SdM}{v:Value}{L:List HP}{H:HP}(h:sentX S v L [H]):∃L2,SentV S H v L2∧Imp L L2:=by
 obtain⟨X,a,c,e,rfl,rfl⟩:=h
 exact xnf
theorem Imp.tail{H:HP}{L:List HP}:Imp (H::L) L:=Imp.app (L:=[H]) (M:=[]) Imp.nil Imp.refl
theorem sentH_open{H:HP}{a:Option Addr}{c:Nat}{X:List SdG}{L:List HP}:Imp (sentH H a c X::L) (H::L):=Imp.unsep (Imp.cons Imp.tail)
theorem sentW_ofE{S:List SdM}{e:Int}{v:Value}{L:List HP}{H:HP}(h:sentE S e v L [H]):∃L2,SentW S e H v L2∧Imp L L2:=by
 obtain⟨X,a,c,e,rfl,rfl⟩:=h
 exact xnf
section
variable {α:Type} {f:α→HP} {l:List α} {k:Nat} {x:α}
theorem many_take{A:List HP}(h:l[k]?=some x):Imp (hsep (l.map f)::A) (f x::hsep ((l.eraseIdx k).map f)::A):=by
 have e1:(l.map f)[k]?=some (f x):=by rw[List.getElem?_map,h];rfl
 have e2:(l.map f).eraseIdx k=(l.eraseIdx k).map f:=(map_eraseIdx f l k).symm
 refine Imp.unsep (Imp.trans (Imp.app (M:=f x::(l.eraseIdx k).map f) (Imp.perm ?_) Imp.refl) ?_)
 ·have:=perm_eraseIdx e1
  rwa[e2] at this
 ·exact Imp.cons (Imp.sep Imp.refl)
theorem many_put{A:List HP}(h:k<l.length)(y:α):Imp (f y::hsep ((l.eraseIdx k).map f)::A) (hsep ((l.set k y).map f)::A):=by
 have e3:((l.set k y).map f)[k]?=some (f y):=by rw[List.getElem?_map,List.getElem?_set_self h];rfl
 have e4:((l.set k y).map f).eraseIdx k=(l.eraseIdx k).map f:=by rw[List.map_set,List.eraseIdx_set_eq,map_eraseIdx]
 have hp:=(perm_eraseIdx e3).symm
 rw[e4] at hp
 refine Imp.sep ?_
 refine Imp.trans (M:=(f y::(l.eraseIdx k).map f)++A) (Imp.cons (Imp.unsep Imp.refl)) ?_
 exact Imp.app (Imp.perm hp) Imp.refl
end
end Cl
namespace Cl
open Go Vg T Api Ch Rep Conf Lg Rd
attribute [local irreducible] VO VC VA
theorem last_take(R:RepM)(from_:Int)(f:FrameM)(ms:List MemM)(now:Int):(takeR R from_ f ms now).1.rds.last≤R.rds.last+1:=by
 have h:∀Q:RepM,Q.rds.last=R.rds.last→Q.rds.last≤R.rds.last+1:=fun Q h=>by omega
 unfold takeR
 split
 ·split
  ·exact h _ rfl
  split
  ·exact h _ rfl
  split
  ·unfold readR
   split
   ·exact h _ rfl
   ·show(R.rds.put _ _).last≤_
    unfold RdsM.put;split
    ·exact Int.le_refl _
    ·omega
  ·refine h _ ?_
   unfold updateR
   split
   ·rfl
   split
   ·rfl
   split<;>rfl
 split
 ·split
  ·refine h _ ?_
   show(Rep.ent5 R (frCh f ms)).finishR.rds.last=_
   unfold RepM.finishR
   split<;>(unfold Rep.ent5;split<;>rfl)
  ·exact h _ rfl
 split
 ·split
  ·refine h _ ?_
   unfold forwardR
   split
   ·show(Rep.pushE R f.entry).finishR.becomeR.rds.last=_
    unfold RepM.becomeR
    split<;>(unfold RepM.finishR;split<;>rfl)
   ·rfl
  ·exact h _ rfl
 split
 ·split
  ·refine h _ ?_
   show(Rep.ack2 R f).rds.last=_
   unfold Rep.ack2 Rep.ack1;dsimp only;split<;>rfl
  ·exact h _ rfl
 split
 ·split
  ·refine h _ ?_;unfold RepM.becomeR;split<;>rfl
  ·exact h _ rfl
 split
 ·split<;>exact h _ rfl
 ·exact h _ rfl
theorem last_step(R:RepM)(now:Int):(stepR R now).1.rds.last=R.rds.last:=by
 have hs:∀R:RepM,(serveR R now).1.rds=R.rds:=fun R=>by
  unfold serveR
  split
  ·rfl
  split
  ·rfl
  ·unfold RepM.finishR;split<;>rfl
 have hl:∀(k:Nat) (R:RepM),(serveLoop now k R).1.rds=R.rds:=by
  intro k
  induction k with
  | zero=>intro R;rfl
  | succ k ih=>
   intro R
   unfold serveLoop
   split
   ·split
    ·rw[ih,hs]
    ·exact hs R
   ·rfl
 have h2:(step2 R now).1.rds.last=R.rds.last:=by
  unfold Rep.step2
  split
  ·rw[hl];rfl
  ·rfl
 show(step3 R now).1.rds.last=_
 unfold step3
 split
 ·exact h2
 ·exact h2
theorem last_tick(R:RepM):(tickR R).1.rds.last=R.rds.last:=by
 show(tick1 R).rds.last=_
 unfold tick1;split<;>rfl
theorem goOn_seq(s:CliM)(r now:Int):(s.goOn r now).1.seq=s.seq:=by
 unfold CliM.goOn CliM.giveUp CliM.pause CliM.took
 split
 ·rfl
 split<;>rfl
theorem ctick_seq(s:CliM)(now:Int):(s.tick now).1.seq=s.seq:=by
 unfold CliM.tick
 split
 ·split
  ·exact goOn_seq _ _ _
  ·rfl
 split
 ·split
  ·rfl
  split<;>rfl
 split
 ·split<;>rfl
 ·rfl
theorem ctake_seq(s:CliM)(f:FrameM)(ms:List MemM)(now:Int):(s.take f ms now).1.seq=s.seq:=by
 unfold CliM.take
 split
 ·split
  ·rfl
  split<;>rfl
 split
 ·split<;>rfl
 split
 ·split
  ·unfold CliM.refused
   split
   ·exact goOn_seq _ _ _
   split
   ·rfl
   ·exact goOn_seq _ _ _
  ·rfl
 ·rfl
theorem ccall_seq(s:CliM)(o:OpM)(cl d now:Int):(s.call o cl d now).1.seq≤s.seq+1:=by
 unfold CliM.call
 split
 ·show s.seq≤_;omega
 split<;>exact Int.le_refl _
theorem hcall_len(S:HisM)(c seq:Int)(o:OpM):(S.call c seq o).recs.length≤S.recs.length+1∧(S.call c seq o).events≤S.events+1:=by
 unfold HisM.call
 split
 ·exact⟨by omega,by omega⟩
 ·exact⟨by simp,Int.le_refl _⟩
theorem hend_len(S:HisM)(c seq:Int)(o:OutM):(S.end_ c seq o).recs.length=S.recs.length∧(S.end_ c seq o).events≤S.events+1:=by
 unfold HisM.end_
 split
 ·exact⟨rfl,by omega⟩
 split
 ·exact⟨rfl,by omega⟩
 split
 ·exact⟨rfl,by omega⟩
 ·exact⟨List.length_set,Int.le_refl _⟩
theorem mGet_mem{κ α:Type}[DecidableEq κ]{a:κ}{v:α}:∀{l:List (κ×α)},mGet l a=some v→(a,v)∈l
 | [],h=>by cases h
 | (k,u)::r,h=>by
  simp only[mGet] at h
  split at h
  ·rename_i e;cases h;rw[e];exact List.mem_cons_self ..
  ·exact List.mem_cons_of_mem _ (mGet_mem h)
theorem mDel_mem{κ α:Type}[DecidableEq κ]{a:κ}:∀{l:List (κ×α)} {x:κ×α},x∈mDel l a→x∈l
 | [],x,h=>by cases h
 | (k,u)::r,x,h=>by
  simp only[mDel] at h
  split at h
  ·exact List.mem_cons_of_mem _ h
  ·rcases List.mem_cons.1 h with h | h
   ·rw[h];exact List.mem_cons_self ..
   ·exact List.mem_cons_of_mem _ (mDel_mem h)
namespace LnkM.Adr
variable {S:LnkM}
theorem put(h:S.Adr){p:PrM}(h1:adrB p.1=true)(h2:adrB p.2=true)(l:List ByteArray):({ S with mail:=mPut S.mail p l }:LnkM).Adr:=fun x hx=>by
 rcases mPut_mem hx with h3 | h3
 ·exact h x h3
 ·rw[h3];exact⟨h1,h2⟩
theorem send(h:S.Adr)(p:PrM)(t:ByteArray):(S.send p t).Adr:=by
 unfold LnkM.send
 split
 ·exact h
 ·rename_i h0
  have h0:S.sendE p t=0:=by simpa using h0
  have:¬(adrB p.1=false∨adrB p.2=false∨p.1=p.2):=fun g=>by unfold LnkM.sendE at h0;rw[if_pos g] at h0;cases h0
  exact h.put (by cases hh:adrB p.1<;>simp_all) (by cases hh:adrB p.2<;>simp_all) _
theorem found(h:S.Adr){p:PrM}{i:Int}{t:ByteArray}(hf:S.find p i=some t):adrB p.1=true∧adrB p.2=true:=by
 unfold LnkM.find LnkM.list at hf
 split at hf
 ·cases hf
 ·cases hg:mGet S.mail p with
  | none=>rw[hg] at hf;cases hf
  | some l=>exact h _ (mGet_mem hg)
theorem without(h:S.Adr){p:PrM}{i:Int}{t:ByteArray}(hf:S.find p i=some t):(S.without p i).Adr:=by
 have:=h.found hf
 unfold LnkM.without
 split
 ·exact fun x hx=>(h.put this.1 this.2 _) x (mDel_mem hx)
 ·exact h.put this.1 this.2 _
theorem drop(h:S.Adr)(p:PrM)(i:Int):(S.drop p i).1.Adr:=by
 unfold LnkM.drop
 split
 ·exact h
 ·rename_i hf
  cases hg:S.find p i with
  | none=>exact absurd hg hf
  | some t=>exact h.without hg
theorem double(h:S.Adr)(p:PrM)(i:Int):(S.double p i).1.Adr:=by
 unfold LnkM.double
 split
 ·exact h
 ·exact h.send _ _
theorem postL(h:S.Adr)(from_:Int)(l:List SdM):(Cl.postL from_ S l).Adr:=by
 unfold Cl.postL
 induction l generalizing S with
 | nil=>exact h
 | cons s l ih=>
  refine ih ?_
  unfold post1
  split
  ·exact h
  ·exact h.send _ _
end LnkM.Adr
theorem adr_r{a:Int}(h:adrB a=true):0≤a∧a<38:=by
 unfold adrB at h
 simp only[Bool.or_eq_true,Bool.and_eq_true,decide_eq_true_eq] at h
 omega
namespace CluM.Ok
variable {C:CluM} {b e:Nat}
theorem mono(h:C.Ok b e){b' e':Nat}(hb:b≤b')(he:e≤e'):C.Ok b' e' where
 cf:=h.cf
 n0:=h.n0
 n1:=h.n1
 mas:=h.mas
 nl:=h.nl
 cl:=h.cl
 lnk:=h.lnk
 his:=h.his
 fit:=h.fit
 last r hr:=by have:=h.last r hr;omega
 cok:=h.cok
 seq s hs:=by have:=h.seq s hs;omega
 rc:=Nat.le_trans h.rc hb
 ev:=by have:=h.ev;omega
 dn:=h.dn
 adr:=h.adr
theorem links(h:C.Ok b e){l:LnkM}(hl:l.Ok)(ha:l.Adr):({ C with lnk:=l }:CluM).Ok b e:=⟨h.cf,h.n0,h.n1,h.mas,h.nl,h.cl,hl,h.his,h.fit,h.last,h.cok,h.seq,h.rc,h.ev,h.dn,ha⟩
theorem master(h:C.Ok b e){m:MasM}(hm:m.Ok):({ C with mas:=m }:CluM).Ok b e:=⟨h.cf,h.n0,h.n1,hm,h.nl,h.cl,h.lnk,h.his,h.fit,h.last,h.cok,h.seq,h.rc,h.ev,h.dn,h.adr⟩
theorem at_(h:C.Ok b e):({ C with now:=min (C.now+1) 1099511627776 }:CluM).Ok b e:=⟨h.cf,by show 0≤min (C.now+1) 1099511627776;have:=h.n0;omega,by show min (C.now+1) 1099511627776≤1099511627776;omega,h.mas,h.nl,h.cl,h.lnk,h.his,h.fit,h.last,h.cok,h.seq,h.rc,h.ev,h.dn,h.adr⟩
theorem post(h:C.Ok b e)(from_:Int)(S:List SdM):(C.post from_ S).Ok b e:=h.links (h.lnk.postL from_ S) (h.adr.postL from_ S)
theorem setNode(h:C.Ok b e)(n:Int){x:Option RepM}(hx:∀r,x=some r→r.Fit∧r.rds.last≤b):(C.setNode n x).Ok b e:=⟨h.cf,h.n0,h.n1,h.mas,by show(C.nodes.set _ _).length=_;rw[List.length_set];exact h.nl,h.cl,h.lnk,h.his,fun r hr=>by
 rcases List.mem_or_eq_of_mem_set hr with h1 | h1
 ·exact h.fit r h1
 ·exact(hx r h1.symm).1,fun r hr=>by
 rcases List.mem_or_eq_of_mem_set hr with h1 | h1
 ·exact h.last r h1
 ·exact(hx r h1.symm).2,h.cok,h.seq,h.rc,h.ev,h.dn,h.adr⟩
theorem node1(h:C.Ok b e)(n:Int){r:RepM}(h1:r.Fit)(h2:r.rds.last≤b):(C.setNode n (some r)).Ok b e:=h.setNode n fun r' e=>by cases e;exact⟨h1,h2⟩
theorem node0(h:C.Ok b e)(n:Int):(C.setNode n none).Ok b e:=h.setNode n fun r' e=>by cases e
theorem setCli(h:C.Ok b e)(n:Int){s:CliM}(h1:s.Ok)(h2:s.seq≤b):(C.setCli n s).Ok b e:=⟨h.cf,h.n0,h.n1,h.mas,h.nl,by show(C.clis.set _ _).length=_;rw[List.length_set];exact h.cl,h.lnk,h.his,h.fit,h.last,fun x hx=>by
 rcases List.mem_or_eq_of_mem_set hx with g | g
 ·exact h.cok x g
 ·rw[g];exact h1,fun x hx=>by
 rcases List.mem_or_eq_of_mem_set hx with g | g
 ·exact h.seq x g
 ·rw[g];exact h2,h.rc,h.ev,h.dn,h.adr⟩
theorem hist(h:C.Ok b e){H:HisM}(h1:H.Ok)(h2:H.recs.length≤b)(h3:H.events≤e):({ C with his:=H }:CluM).Ok b e:=⟨h.cf,h.n0,h.n1,h.mas,h.nl,h.cl,h.lnk,h1,h.fit,h.last,h.cok,h.seq,h2,h3,h.dn,h.adr⟩
theorem up(h:C.Ok b e){n:Int}{r:RepM}(hn:C.node n=some r):some r∈C.nodes:=by
 unfold CluM.node at hn
 split at hn
 ·cases hn
 ·cases hx:C.nodes[n.toNat]? with
  | none=>rw[hx] at hn;cases hn
  | some x=>rw[hx] at hn;obtain rfl:x=some r:=hn;exact ME hx
theorem upC(h:C.Ok b e){n:Int}{s:CliM}(hn:C.cli n=some s):s∈C.clis:=by
 unfold CluM.cli at hn
 split at hn
 ·cases hn
 ·exact ME hn
theorem tickN(h:C.Ok b e)(n:Nat):(C.tickN n).Ok b e:=by
 unfold CluM.tickN
 split
 ·exact h
 ·rename_i r hr
  have hm:some r∈C.nodes:=by
   cases hx:C.nodes[n]? with
   | none=>rw[hx] at hr;cases hr
   | some x=>rw[hx] at hr;obtain rfl:x=some r:=hr;exact ME hx
  exact(h.node1 n (tickR_fit (h.fit r hm)) (by rw[last_tick];exact h.last r hm)).post _ _
theorem tickC(h:C.Ok b e)(n:Nat):(C.tickC n).Ok b e:=by
 unfold CluM.tickC
 split
 ·exact h
 ·rename_i s hs
  have hm:s∈C.clis:=ME hs
  exact(h.setCli n ((h.cok s hm).tick C.now) (by rw[ctick_seq];exact h.seq s hm)).post _ _
theorem tickNs(h:C.Ok b e)(l:List Nat):(l.foldl CluM.tickN C).Ok b e:=by
 induction l generalizing C with
 | nil=>exact h
 | cons x l ih=>exact ih (h.tickN x)
theorem tickCs(h:C.Ok b e)(l:List Nat):(l.foldl CluM.tickC C).Ok b e:=by
 induction l generalizing C with
 | nil=>exact h
 | cons x l ih=>exact ih (h.tickC x)
theorem tick(h:C.Ok b e):C.tick.Ok b e:=(h.at_.tickNs _).tickCs _
theorem takes(h:C.Ok b e)(hb:b<100000000)(from_ to:Int)(f:FrameM)(ms:List MemM):(C.takes from_ to f ms).Ok (b+1) e:=by
 have h':=h.mono (b':=b+1) yd (NR e)
 unfold CluM.takes
 split
 ·exact(h'.master (h.mas.take _ _ _)).post _ _
 split
 ·rename_i r hr
  have hm:=h.up hr
  have hl:=h.last r hm
  exact(h'.node1 _ (takeR_fit (h.fit r hm) yd _ _ _ _) (by have:=last_take r from_ f ms C.now;omega)).post _ _
 split
 ·rename_i s hs
  have hm:=h.upC hs
  exact(h'.setCli _ ((h.cok s hm).take f ms C.now) (by rw[ctake_seq];exact h'.seq s hm)).post _ _
 ·exact h'
theorem got(h:C.Ok b e)(hb:b<100000000)(from_ to:Int)(t:ByteArray):(C.got from_ to t).Ok (b+1) e:=by
 unfold CluM.got
 split
 ·exact h.takes hb _ _ _ _
 ·exact h.mono yd (NR e)
theorem find_without{l:LnkM}{p:PrM}{i:Int}{t:ByteArray}(h:l.find p i=some t):l.without p i=(l.drop p i).1:=by
 unfold LnkM.drop
 rw[if_neg (by rw[h];intro g;cases g)]
theorem deliver(h:C.Ok b e)(hb:b<100000000)(p:PrM)(i:Int):(C.deliver p i).1.Ok (b+1) e:=by
 unfold CluM.deliver
 split
 ·exact h.mono yd (NR e)
 ·rename_i t ht
  have:(C.lnk.without p i).Ok:=by rw[find_without ht];exact h.lnk.drop p i
  exact(h.links this (h.adr.without ht)).got hb _ _ _
theorem back(h:C.Ok b e)(hb:b<100000000)(n:Int):(C.back n).Ok (b+1) e:=by
 have h':=h.mono (b':=b+1) yd (NR e)
 unfold CluM.back
 split
 ·have hf:=newR_fit h.cf n true
  have hl:(newR C.conf n true).rds.last=0:=by
   unfold newR;split
   ·rfl
   split<;>rfl
  exact(h'.node1 _ (takeR_fit hf yd _ _ _ _) (by have:=last_take (newR C.conf n true) 16 (cfgF C.mas.ch) C.mas.ch.ms C.now;omega)).post _ _
 ·exact h'
theorem join(h:C.Ok b e)(hb:b<100000000)(n:Int):(C.join n).1.Ok (b+1) e:=by
 unfold CluM.join
 dsimp only
 split
 ·exact h.mono yd (NR e)
 ·exact((h.master (h.mas.join_few n C.now).2).back hb n).post _ _
theorem call(h:C.Ok b e)(hb:b<100000)(he:e<1000000)(s:StpM):(C.call s).1.Ok (b+1) (e+1):=by
 have h':=h.mono (b':=b+1) (e':=e+1) yd yd
 unfold CluM.call
 split
 ·exact h'
 ·rename_i x hx
  have hm:=h.upC hx
  split
  ·exact h'
  ·have h1:=h.rc
   have h2:=h.ev
   have h3:=h.seq x hm
   have h4:=ccall_seq x s.op s.b (C.dead s.c) C.now
   have h5:=hcall_len C.his s.a (x.call s.op s.b (C.dead s.c) C.now).1.seq s.op
   exact((h'.setCli s.a ((h.cok x hm).call _ _ _ _) yd).hist (h.his.call yd yd s.a (x.call s.op s.b (C.dead s.c) C.now).1.seq s.op) yd yd).post _ _
theorem step(h:C.Ok b e)(hb:b<100000)(he:e<1000000)(s:StpM):(C.step s).1.Ok (b+1) (e+1):=by
 have h':=h.mono (b':=b+1) (e':=e+1) yd yd
 have up1:∀{D:CluM},D.Ok (b+1) e→D.Ok (b+1) (e+1):=fun g=>g.mono (NR _) yd
 unfold CluM.step
 by_cases k1:s.kind=1
 ·rw[if_pos k1]
  exact h.call hb he s
 rw[if_neg k1]
 by_cases k2:s.kind=2
 ·rw[if_pos k2]
  split
  ·exact h'
  ·rename_i r hr
   have hm:=h.up hr
   exact(h'.node1 _ (stepR_fit (h.fit r hm) C.now) (by rw[last_step];exact h'.last r hm)).post _ _
 rw[if_neg k2]
 by_cases k3:s.kind=3
 ·rw[if_pos k3]
  exact h'.tick
 rw[if_neg k3]
 by_cases k4:s.kind=4
 ·rw[if_pos k4]
  exact up1 (h.deliver yd _ _)
 rw[if_neg k4]
 by_cases k5:s.kind=5
 ·rw[if_pos k5]
  exact h'.links (h.lnk.drop _ _) (h.adr.drop _ _)
 rw[if_neg k5]
 by_cases k6:s.kind=6
 ·rw[if_pos k6]
  exact h'.links (h.lnk.double _ _) (h.adr.double _ _)
 rw[if_neg k6]
 by_cases k7:s.kind=7
 ·rw[if_pos k7]
  split
  ·exact h'
  ·exact h'.node0 _
 rw[if_neg k7]
 by_cases k8:s.kind=8
 ·rw[if_pos k8]
  exact(h'.master (h.mas.suspect_few s.a).2).post _ _
 rw[if_neg k8]
 by_cases k9:s.kind=9
 ·rw[if_pos k9]
  exact up1 (h.join yd s.a)
 rw[if_neg k9]
 by_cases k10:s.kind=10
 ·rw[if_pos k10]
  exact(h'.master (h.mas.drain_few s.a).2).post _ _
 rw[if_neg k10]
 by_cases k11:s.kind=11
 ·rw[if_pos k11]
  exact(h'.master (h.mas.tick C.now)).post _ _
 rw[if_neg k11]
 exact h'
theorem endHs{H:HisM}(h:H.Ok):∀(l:List (CliM×Nat)),H.events+l.length<10000000→(l.foldl endH H).Ok∧(l.foldl endH H).recs.length=H.recs.length∧(l.foldl endH H).events≤H.events+l.length
 | [],_=>⟨h,rfl,by simp⟩
 | x::l,hl=>by
  rw[List.length_cons] at hl
  rw[List.foldl_cons,List.length_cons]
  have key:∃K,endH H x=K∧K.Ok∧K.recs.length=H.recs.length∧K.events≤H.events+1:=by
   unfold endH
   split
   ·exact⟨_,rfl,h,rfl,by omega⟩
   ·rename_i o ho
    exact⟨_,rfl,h.end_ yd _ _ o,(hend_len H _ _ o).1,(hend_len H _ _ o).2⟩
  obtain⟨K,e1,e2,e3,e4⟩:=key
  rw[e1]
  have:=endHs e2 l yd
  exact⟨this.1,by rw[this.2.1,e3],by have:=this.2.2;omega⟩
theorem doneN_len{d:List EntryM}{x:Option RepM×Nat}(hd:d.length≤4096)(hx:∀r,x.1=some r→r.Fit):(doneN d x).length≤4096:=by
 unfold doneN
 split
 ·exact hd
 ·rename_i r hr
  split
  ·exact hd
  ·have hf:=(hx r hr).ok
   have:=hf.win.last1
   have:=hf.win.done1
   rw[List.length_append,List.length_drop,List.length_take]
   omega
theorem doneNs{l:List (Option RepM×Nat)}{d:List EntryM}(hd:d.length≤4096)(hx:∀x∈l,∀r,x.1=some r→r.Fit):(l.foldl doneN d).length≤4096:=by
 induction l generalizing d with
 | nil=>exact hd
 | cons x l ih=>exact ih (doneN_len hd (hx x yf)) (fun y hy=>hx y (by simp[hy]))
theorem clis(h:C.Ok b e):C.clis.length≤6:=by
 have:=conf_bounds h.cf
 rw[h.cl]
 omega
theorem nods(h:C.Ok b e):C.nodes.length≤6:=by
 have:=conf_bounds h.cf
 rw[h.nl]
 omega
theorem behind(h:C.Ok b e)(he:e<1000000):C.behind.Ok b (e+6):=by
 have hc:=h.clis
 have h2:=h.ev
 have key:=endHs h.his C.clis.zipIdx (by rw[List.length_zipIdx];omega)
 rw[List.length_zipIdx] at key
 have h':=(h.mono (b':=b) (e':=e+6) (NR b) yd).hist key.1 (by rw[key.2.1];exact h.rc) (by have:=key.2.2;omega)
 exact⟨h'.cf,h'.n0,h'.n1,h'.mas,h'.nl,h'.cl,h'.lnk,h'.his,h'.fit,h'.last,h'.cok,h'.seq,h'.rc,h'.ev,doneNs h.dn fun x hx r hr=>h.fit r (by
  have:x.1∈C.nodes:=by
   have:=List.mem_zipIdx' (x:=x.1) (i:=x.2) hx
   exact ME (by rw[GE this.1,←this.2])
  rw[hr] at this;exact this),h'.adr⟩
theorem do_(h:C.Ok b e)(hb:b<100000)(he:e<900000)(s:StpM):(C.do_ s).1.Ok (b+1) (e+7):=(h.step hb yd s).behind yd
end CluM.Ok
theorem newC_ok{c:ConfM}(h:c=fitM c):(newC c).Ok 0 0:=by
 have hb:=conf_bounds h
 have hb2:=conf_bounds2 h
 have hM:(newM c).Ok:=newM_eq c h▸newMk_ok h _
 exact⟨h,Int.le_refl _,by show(0:Int)≤_;decide,hM,by simp[newC],by simp[newC],⟨by show 1≤c.link;omega,hb2.2.2.2.2.1.2,fun x hx=>absurd hx List.not_mem_nil,List.nodup_nil⟩,
  ⟨by show 0≤1000000;omega,by show(0:Int)≤0;decide,by show(0:Int)≤10000000;decide,rfl,fun x hx=>by rw[List.eq_of_mem_replicate hx];exact⟨Int.le_refl _,Int.le_refl _⟩⟩,fun r hr=>by
   obtain⟨n,_,e⟩:=List.mem_map.1 hr
   cases e;exact newR_fit h _ _,fun r hr=>by
   obtain⟨n,_,e⟩:=List.mem_map.1 hr
   cases e
   have:(newR c n false).rds.last=0:=by
    unfold newR;split
    ·rfl
    split<;>rfl
   omega,fun s hs=>by
   obtain⟨n,_,rfl⟩:=List.mem_map.1 hs
   exact newCl_ok h n,fun s hs=>by
   obtain⟨n,_,rfl⟩:=List.mem_map.1 hs
   exact Int.le_refl _,Nat.zero_le _,Int.le_refl _,Nat.zero_le _,fun x hx=>absurd hx List.not_mem_nil⟩
end Cl
namespace Cl
open Go Vg T Api Ch Rep Conf Lg Rd
attribute [local irreducible] VO VC VA
section
variable {p:Nat} {C:CluM} {y:CluS}
def cnL(p:Nat)(C:CluM)(y:CluS)(k:Nat)(l:LnkM):List HP:=[pt p (cluC C y) cluT,intH y.qa y.qc C.conf.qs,masH y.mp C.mas,pt y.nb (flat nodC y.nr++y.nx) rpT,pt y.cb (flat cliV y.cr++y.cx) cpT,lnkH y.lp l,hisH y.hp C.his,slH entT 7 y.da C.done.length y.dc (flat entC C.done),hsep ((y.nr.eraseIdx k).map nodP),hsep (y.cr.map cliP)]
def ccL(p:Nat)(C:CluM)(y:CluS)(k:Nat)(l:LnkM)(h:HisM):List HP:=[pt p (cluC C y) cluT,intH y.qa y.qc C.conf.qs,masH y.mp C.mas,pt y.nb (flat nodC y.nr++y.nx) rpT,pt y.cb (flat cliV y.cr++y.cx) cpT,lnkH y.lp l,hisH y.hp h,slH entT 7 y.da C.done.length y.dc (flat entC C.done),hsep (y.nr.map nodP),hsep ((y.cr.eraseIdx k).map cliP)]
def cmL(p:Nat)(C:CluM)(y:CluS)(l:LnkM):List HP:=[pt p (cluC C y) cluT,intH y.qa y.qc C.conf.qs,pt y.nb (flat nodC y.nr++y.nx) rpT,pt y.cb (flat cliV y.cr++y.cx) cpT,lnkH y.lp l,hisH y.hp C.his,slH entT 7 y.da C.done.length y.dc (flat entC C.done),hsep (y.nr.map nodP),hsep (y.cr.map cliP)]
def CluS.node(y:CluS)(k:Nat)(x:NdG):CluS:={ y with nr:=y.nr.set k x }
def CluS.cli(y:CluS)(k:Nat)(x:CiG):CluS:={ y with cr:=y.cr.set k x }
theorem node_out{k q:Nat}{r:RepM}(h:y.nr[k]?=some (some (q,r))):Imp (cluL p C y) (repH q r::cnL p C y k C.lnk):=
 Imp.trans (IP 8 rfl Imp.refl) (Imp.trans (many_take (f:=nodP) h) (Imp.cons (IP 1 rfl (IP 1 rfl (IP 1 rfl (IP 1 rfl (IP 1 rfl (IP 1 rfl (IP 1 rfl (IP 1 rfl Imp.refl))))))))))
theorem cli_out{k q:Nat}{s:CliM}(h:y.cr[k]?=some (q,s)):Imp (cluL p C y) (cliH q s::ccL p C y k C.lnk C.his):=
 Imp.trans (IP 9 rfl Imp.refl) (Imp.trans (many_take (f:=cliP) h) (Imp.cons (IP 1 rfl (IP 1 rfl (IP 1 rfl (IP 1 rfl (IP 1 rfl (IP 1 rfl (IP 1 rfl (IP 1 rfl (IP 1 rfl Imp.refl)))))))))))
theorem mas_out:Imp (cluL p C y) (masH y.mp C.mas::cmL p C y C.lnk):=IP 2 rfl Imp.refl
theorem nod_same{l:List NdG}{k q:Nat}{r r':RepM}(h:l[k]?=some (some (q,r))):flat nodC (l.set k (some (q,r')))=flat nodC l:=by
 have hk:=(List.getElem?_eq_some_iff.1 h).1
 unfold flat
 rw[List.map_set]
 congr 1
 apply List.ext_getElem?
 intro j
 rw[List.getElem?_set]
 split
 ·rename_i e;subst e
  rw[if_pos (by rw[List.length_map];exact hk),List.getElem?_map,h];rfl
 ·rfl
theorem cli_same{l:List CiG}{k q:Nat}{s s':CliM}(h:l[k]?=some (q,s)):flat cliV (l.set k (q,s'))=flat cliV l:=by
 have hk:=(List.getElem?_eq_some_iff.1 h).1
 unfold flat
 rw[List.map_set]
 congr 1
 apply List.ext_getElem?
 intro j
 rw[List.getElem?_set]
 split
 ·rename_i e;subst e
  rw[if_pos (by rw[List.length_map];exact hk),List.getElem?_map,h];rfl
 ·rfl
theorem node_fit(fit:CluFit C y)(k:Nat)(x:NdG)(l:LnkM):CluFit ({ C.setNode k (x.map Prod.snd) with lnk:=l }:CluM) (y.node k x):=
 ⟨by show(y.nr.set k x).map _=C.nodes.set k _;rw[List.map_set,fit.nr],fit.cr,fit.qc⟩
theorem cli_fit(fit:CluFit C y)(k:Nat)(x:CiG)(l:LnkM)(h:HisM):CluFit ({ C.setCli k x.2 with lnk:=l,his:=h }:CluM) (y.cli k x):=
 ⟨fit.nr,by show(y.cr.set k x).map _=C.clis.set k _;rw[List.map_set,fit.cr],fit.qc⟩
theorem node_cells(C':CluM){k:Nat}{x:NdG}(h1:C'.conf=C.conf)(h2:C'.now=C.now)(h3:C'.done=C.done):cluC C' (y.node k x)=cluC C y:=by
 unfold cluC CluS.node
 rw[h1,h2,h3]
 dsimp only
 rw[List.length_set]
theorem cli_cells(C':CluM){k:Nat}{x:CiG}(h1:C'.conf=C.conf)(h2:C'.now=C.now)(h3:C'.done=C.done):cluC C' (y.cli k x)=cluC C y:=by
 unfold cluC CluS.cli
 rw[h1,h2,h3]
 dsimp only
 rw[List.length_set]
theorem node_in{k q:Nat}{r r':RepM}{l:LnkM}(h:y.nr[k]?=some (some (q,r))):Imp (repH q r'::cnL p C y k l) (cluL p ({ C.setNode k (some r') with lnk:=l }:CluM) (y.node k (some (q,r')))):=by
 have hk:=(List.getElem?_eq_some_iff.1 h).1
 have e1:=node_cells (C:=C) (y:=y) (k:=k) (x:=some (q,r')) ({ C.setNode k (some r') with lnk:=l }:CluM) rfl rfl rfl
 have e2:=nod_same (r':=r') h
 unfold cluL
 rw[e1]
 show Imp _ [_,_,_,pt y.nb (flat nodC (y.nr.set k (some (q,r')))++y.nx) rpT,_,_,_,_,hsep ((y.nr.set k (some (q,r'))).map nodP),_]
 rw[e2]
 refine Imp.trans (M:=repH q r'::hsep ((y.nr.eraseIdx k).map nodP)::_) (Imp.cons (IP 8 rfl Imp.refl)) (Imp.trans (many_put (f:=nodP) hk (some (q,r'))) ?_)
 exact IP 1 rfl (IP 1 rfl (IP 1 rfl (IP 1 rfl (IP 1 rfl (IP 1 rfl (IP 1 rfl (IP 1 rfl Imp.refl)))))))
theorem cli_in{k q:Nat}{s s':CliM}{l:LnkM}{hi:HisM}(h:y.cr[k]?=some (q,s)):Imp (cliH q s'::ccL p C y k l hi) (cluL p ({ C.setCli k s' with lnk:=l,his:=hi }:CluM) (y.cli k (q,s'))):=by
 have hk:=(List.getElem?_eq_some_iff.1 h).1
 have e1:=cli_cells (C:=C) (y:=y) (k:=k) (x:=(q,s')) ({ C.setCli k s' with lnk:=l,his:=hi }:CluM) rfl rfl rfl
 have e2:=cli_same (s':=s') h
 unfold cluL
 rw[e1]
 show Imp _ [_,_,_,_,pt y.cb (flat cliV (y.cr.set k (q,s'))++y.cx) cpT,_,_,_,_,hsep ((y.cr.set k (q,s')).map cliP)]
 rw[e2]
 refine Imp.trans (M:=cliH q s'::hsep ((y.cr.eraseIdx k).map cliP)::_) (Imp.cons (IP 9 rfl Imp.refl)) (Imp.trans (many_put (f:=cliP) hk (q,s')) ?_)
 exact IP 1 rfl (IP 1 rfl (IP 1 rfl (IP 1 rfl (IP 1 rfl (IP 1 rfl (IP 1 rfl (IP 1 rfl (IP 1 rfl Imp.refl))))))))
theorem mas_in{m:MasM}{l:LnkM}:Imp (masH y.mp m::cmL p C y l) (cluL p ({ C with mas:=m,lnk:=l }:CluM) y):=IP 1 rfl (IP 1 rfl Imp.refl)
theorem clu_shut(fit:CluFit C y){R:List HP}:Imp (cluL p C y++R) [cluH p C]:=Imp.clu (K:=[]) y fit (by rw[List.append_nil];exact Imp.trans (Imp.app (M:=cluL p C y) (M':=[]) Imp.refl Imp.nil) (Imp.of_eq (List.append_nil _)))
theorem node_shut(fit:CluFit C y){k q:Nat}{r r':RepM}{l:LnkM}{a:Option Addr}{c:Nat}{X:List SdG}(h:y.nr[k]?=some (some (q,r))){R:List HP}:Imp (sentH (repH q r') a c X::(cnL p C y k l++R)) [cluH p ({ C.setNode k (some r') with lnk:=l }:CluM)]:=
 Imp.trans sentH_open (Imp.trans (Imp.app (L:=repH q r'::cnL p C y k l) (node_in h) Imp.refl) (clu_shut (node_fit fit k (some (q,r')) l)))
theorem cli_shut(fit:CluFit C y){k q:Nat}{s s':CliM}{l:LnkM}{hi:HisM}{a:Option Addr}{c:Nat}{X:List SdG}(h:y.cr[k]?=some (q,s)){R:List HP}:Imp (sentH (cliH q s') a c X::(ccL p C y k l hi++R)) [cluH p ({ C.setCli k s' with lnk:=l,his:=hi }:CluM)]:=
 Imp.trans sentH_open (Imp.trans (Imp.app (L:=cliH q s'::ccL p C y k l hi) (cli_in h) Imp.refl) (clu_shut (cli_fit fit k (q,s') l hi)))
theorem mas_shut(fit:CluFit C y){m:MasM}{l:LnkM}{a:Option Addr}{c:Nat}{X:List SdG}{R:List HP}:Imp (sentH (masH y.mp m) a c X::(cmL p C y l++R)) [cluH p ({ C with mas:=m,lnk:=l }:CluM)]:=
 Imp.trans sentH_open (Imp.trans (Imp.app (L:=masH y.mp m::cmL p C y l) mas_in Imp.refl) (clu_shut (C:=({ C with mas:=m,lnk:=l }:CluM)) ⟨fit.nr,fit.cr,fit.qc⟩))
end
section
variable {q:Nat}
theorem vstep_spec{r:RepM}(ok:r.Ok)(now:Int):Tri Tryz.prog 80 [.pointer (some ⟨q,0,none⟩),.int .i64 now] Fr w [repH q r] (fun v L=>SentV (ofS (stepR r now).2) (repH q (stepR r now).1) v L):=Go.Proofs.YtmghpgpfeabghaaGreat.Ring.Tri.drop (step_spec Fr w ok now) fun _ _ h=>sentV_of h
theorem vtick_spec{r:RepM}(ok:r.Ok)(now:Int):Tri Tryz.prog 121 [.pointer (some ⟨q,0,none⟩),.int .i64 now] Fr w [repH q r] (fun v L=>SentV (ofS (tickR r).2) (repH q (tickR r).1) v L):=Go.Proofs.YtmghpgpfeabghaaGreat.Ring.Tri.drop (tick_spec Fr w ok now) fun _ _ h=>sentV_of h
theorem vtake_spec{r:RepM}(fit:r.Fit)(hlast:r.rds.last<100000000)(from_:Int)(f:FrameM){ma:Option Addr}{mc:Nat}{ms:List MemM}(hm:RwIn memC 2 Fr w ma ms)(hml:ms.length≤1000000)(now:Int)
  (hi1:-9223372036854775808≤f.entry.index) (hi2:f.entry.index≤9223372036854775807):Tri Tryz.prog 133 [.pointer (some ⟨q,0,none⟩),.int .i64 from_,.agg (f.cells (ma,ms.length,mc)).toArray,.int .i64 now] Fr w [repH q r] (fun v L=>SentV (ofS (takeR r from_ f ms now).2) (repH q (takeR r from_ f ms now).1) v L):=
 Go.Proofs.YtmghpgpfeabghaaGreat.Ring.Tri.drop (take_spec Fr w fit hlast from_ f hm hml now hi1 hi2) fun _ _ h=>sentV_of h
theorem vmtake_spec{M:MasM}(ok:M.Ok)(from_:Int)(f:FrameM)(g:MemG)(now:Int):Tri Tryz.prog 184 [.pointer (some ⟨q,0,none⟩),.int .i64 from_,.agg (f.cells g).toArray,.int .i64 now] Fr w [masH q M] (fun v L=>SentV (M.take from_ f now).2 (masH q (M.take from_ f now).1) v L):=Go.Proofs.YtmghpgpfeabghaaGreat.Ring.Tri.drop (mtake_spec Fr w ok from_ f g now) fun _ _ h=>sentV_ofX h
theorem vmtick_spec{M:MasM}(ok:M.Ok)(now:Int):Tri Tryz.prog 82 [.pointer (some ⟨q,0,none⟩),.int .i64 now] Fr w [masH q M] (fun v L=>SentV (M.tick now).2 (masH q (M.tick now).1) v L):=Go.Proofs.YtmghpgpfeabghaaGreat.Ring.Tri.drop (mtick_spec Fr w ok now) fun _ _ h=>sentV_ofX h
theorem vsuspect_spec{M:MasM}(ok:M.Ok)(n:Int):Tri Tryz.prog 86 [.pointer (some ⟨q,0,none⟩),.int .i64 n] Fr w [masH q M] (fun v L=>SentW (M.suspect n).2.1 (M.suspect n).2.2 (masH q (M.suspect n).1) v L):=Go.Proofs.YtmghpgpfeabghaaGreat.Ring.Tri.drop (msuspect_spec Fr w ok n) fun _ _ h=>sentW_ofE h
theorem vdrain_spec{M:MasM}(ok:M.Ok)(n:Int):Tri Tryz.prog 88 [.pointer (some ⟨q,0,none⟩),.int .i64 n] Fr w [masH q M] (fun v L=>SentW (M.drain n).2.1 (M.drain n).2.2 (masH q (M.drain n).1) v L):=Go.Proofs.YtmghpgpfeabghaaGreat.Ring.Tri.drop (mdrain_spec Fr w ok n) fun _ _ h=>sentW_ofE h
theorem vjoin_spec{M:MasM}(ok:M.Ok)(n now:Int):Tri Tryz.prog 132 [.pointer (some ⟨q,0,none⟩),.int .i64 n,.int .i64 now] Fr w [masH q M] (fun v L=>SentW (M.join n now).2.1 (M.join n now).2.2 (masH q (M.join n now).1) v L):=Go.Proofs.YtmghpgpfeabghaaGreat.Ring.Tri.drop (mjoin_spec Fr w ok n now) fun _ _ h=>sentW_ofE h
theorem vctake_spec{S:CliM}(ok:S.Ok)(f:FrameM){ma:Option Addr}{mc:Nat}{ms:List MemM}(hm:RwIn memC 2 Fr w ma ms)(hml:ms.length≤1000000)(now:Int):Tri Tryz.prog 246 [.pointer (some ⟨q,0,none⟩),.agg (f.cells (ma,ms.length,mc)).toArray,.int .i64 now] Fr w [cliH q S] (fun v L=>SentV (S.take f ms now).2 (cliH q (S.take f ms now).1) v L):=Go.Proofs.YtmghpgpfeabghaaGreat.Ring.Tri.drop (ctake_spec Fr w ok f hm hml now) fun _ _ h=>sentV_ofX h
theorem vctick_spec{S:CliM}(ok:S.Ok)(now:Int):Tri Tryz.prog 122 [.pointer (some ⟨q,0,none⟩),.int .i64 now] Fr w [cliH q S] (fun v L=>SentV (S.tick now).2 (cliH q (S.tick now).1) v L):=Go.Proofs.YtmghpgpfeabghaaGreat.Ring.Tri.drop (ctick_spec Fr w ok now) fun _ _ h=>sentV_ofX h
theorem vccall_spec{S:CliM}(ok:S.Ok)(hq:S.seq≤1000000000)(o:OpM)(cl d now:Int):Tri Tryz.prog 108 [.pointer (some ⟨q,0,none⟩),.agg o.cells.toArray,.int .i64 cl,.int .i64 d,.int .i64 now] Fr w [cliH q S] (fun v L=>SentW (S.call o cl d now).2 (S.callE o cl d) (cliH q (S.call o cl d now).1) v L):=Go.Proofs.YtmghpgpfeabghaaGreat.Ring.Tri.drop (ccall_spec Fr w ok hq o cl d now) fun _ _ h=>sentW_ofE h
theorem clic_in{Fr:Nat→Prop}{w:World}{S:CliM}(h:SatIn Fr [cliH q S] w):∃y,Blk Fr w q (cliC S y)∧∀x,S.out=some x→Blk Fr w y.b (sloM x):=by
 obtain⟨y,hy⟩:=h.ex
 have hs:=hy.sep
 refine⟨y,hs.blk 0 rfl,fun x hx=>?_⟩
 have hb:=hs.at_ 3 rfl
 rw[hx] at hb
 exact hb.blk 0 rfl
theorem vseq_spec{S:CliM}(ok:S.Ok)(h:SatIn Fr [cliH q S] w):Tri Tryz.prog 91 [.pointer (some ⟨q,0,none⟩)] Fr w [] (fun v L=>v=.int .i64 S.seq∧L=[]):=by
 obtain⟨y,h1,_⟩:=clic_in h
 exact cseq_spec Fr w ok h1
theorem voutcome_spec{S:CliM}(ok:S.Ok)(h:SatIn Fr [cliH q S] w):Tri Tryz.prog 89 [.pointer (some ⟨q,0,none⟩)] Fr w [] (fun v L=>v=outV S.outcome∧L=[]):=by
 obtain⟨y,h1,h2⟩:=clic_in h
 exact coutcome_spec Fr w ok h1 h2
end
theorem set_same{α:Type}{l:List α}{k:Nat}{x:α}(h:l[k]?=some x):l.set k x=l:=by
 apply List.ext_getElem?
 intro j
 rw[List.getElem?_set]
 split
 ·rename_i e;subst e
  rw[if_pos (List.getElem?_eq_some_iff.1 h).1,h]
 ·rfl
end Cl
namespace Cl
open Go Vg T Api Ch Rep Conf Lg Rd
theorem in_n{n:Int}(h:inN n=true):0≤n∧n≤1099511627776:=by unfold inN at h;simpa using h
theorem intsB_put:∀(l:List Int) (r:Bs),(∀n∈l,inN n=true)→intsB l.length (l.flatMap intB++r)=some (l,r)
 | [],r,_=>rfl
 | n::l,r,h=>by
  have hn:=in_n (h n (List.mem_cons_self ..))
  rw[List.flatMap_cons,List.append_assoc,List.length_cons]
  unfold intsB
  rw[unintB_int yd hn.2]
  dsimp only
  rw[intsB_put l r fun m hm=>h m (List.mem_cons_of_mem _ hm)]
end Cl
end Go.Proofs.YtmghpgpfeabghaaGreat
