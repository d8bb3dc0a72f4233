/- Texts of the proof, put together and shortened. No condition. -/
import Derived.Test.YtbbnmgakmcppdaaGreatZw2
set_option maxRecDepth 100000
set_option maxHeartbeats 16000000
set_option linter.unusedVariables false
set_option linter.unusedSectionVars false
set_option linter.unusedSimpArgs false
namespace Go.Proofs.YtbbnmgakmcppdaaGreat
variable (Fr : Nat → Prop) (w : World)
namespace Rep
open Go Vg T Api Kv Ch Lg Rd Win Adm
attribute [local irreducible] VO VC VA
abbrev SndM := Int × FrameM
def mem0 : MemG := (none, 0, 0)
def sndC (s : SndM) : List Value := .int .i64 s.1 :: fgC s.2 mem0
theorem sndC_len (s : SndM) : (sndC s).length = 30 := rfl
abbrev sndT : TypeId := 50
abbrev outT : TypeId := 117
abbrev repT : TypeId := 102
def outL (b : Nat) (S : List SndM) (x : Option Addr × Nat) : List HP := [pt b [.slice x.1 S.length x.2] outT, slH sndT 30 x.1 S.length x.2 (flat sndC S)]
def outH (b : Nat) (S : List SndM) : HP := hex fun x => hsep (outL b S x)
theorem HOpn.out (b : Nat) (S : List SndM) : HOpn (ι := Option Addr × Nat) (outH b S) (fun _ => True) (fun x => outL b S x) := fun w ids ⟨x, h⟩ hn => ⟨x, trivial, ids, h, hn, fun _ h => h⟩
theorem Imp.out {b : Nat} {S : List SndM} {L M : List HP} (x : Option Addr × Nat) (h : Imp L (outL b S x ++ M)) : Imp L (outH b S :: M) :=
 Imp.ex (f := fun x => hsep (outL b S x)) x (Imp.sep (Ls := outL b S x) h)
def sendF (b : Nat) : Value := fnV 56 [.pointer (some ⟨b, 0, none⟩)] []
theorem add_spec (b : Nat) (S : List SndM) (hS : S.length ≤ 1000000) (to_ : Int) (f : FrameM) : Tri Tryz.prog 56 [.pointer (some ⟨b, 0, none⟩), .int .i64 to_, .agg (fgC f mem0).toArray] Fr w [outH b S] (fun v L => v = .tuple #[] ∧ L = [outH b (S ++ [(to_, f)])]) := by
 refine TF 18 Tryz.func56 Z ym tabOk Z Z ?_
 refine CS (CG (VG (VB (vs := fgC f mem0) Z fun fb => VG (VN ?_))))
 refine VC.opn 1 Z (HOpn.out b S) ?_
 rintro ⟨a, c⟩ -
 show VC _ _ _ [pt b [.slice a S.length c] outT, slH sndT 30 a S.length c (flat sndC S), pt fb (fgC f mem0) frT] _
 refine xiy ?_
 refine xeh ?_
 refine VA.go (VA.ldA 2 (fgC f mem0) Z Z Z Z Z ?_)
 refine VA.go (AI Z (LB (pv := [(0, .int .i64 to_), (1, .agg (fgC f mem0).toArray)]) (sndC (to_, f)) Z Z Z ym Z) ?_)
 refine VA.go (AO (OpT.buildSlice (n := 1) (pv := [(0, .agg (sndC (to_, f)).toArray)]) (cells := sndC (to_, f)) Z Z Z Z yy (fill_one Z Z Z)) Z ?_ ?_)
 ·rintro _ _ ⟨nb, rfl, rfl⟩
  exact yr
 rintro _ _ ⟨nb, rfl, rfl⟩
 refine VA.go (AO (OpT.append (m := 1) (news := sndC (to_, f)) 2 Z Z Z Z Z Z Z (RdRow.pt 0 Z Z Z) Z (small_bytes (k := 1000001) yd yy) yd) Z ?_ ?_)
 ·rintro _ _ ⟨a1, c1, rfl, hc1, rfl⟩
  exact yr
 rintro _ _ ⟨a1, c1, rfl, hc1, rfl⟩
 refine xez ?_
 refine VA.go (VA.st 2 (cs' := [.slice a1 (S.length + 1) c1]) Z Z Z Z Z (Nat.le_of_ble_eq_true Z) Z Z yr ?_)
 refine xez ?_
 refine Ret.void Z (Imp.out (S := S ++ [(to_, f)]) (a1, c1) ?_).ent ⟨rfl, Z⟩
 unfold outL
 rw [List.length_append, flat_append, flat_cons, flat_nil, List.append_nil]
 exact (pkZ [2, 0])
structure RepM where
 id : Int
 clients : Int
 cap : Int
 most : Int
 ch : ChM
 since : Int
 whole : Bool
 log : List EntryM
 win : WinM
 adm : AdmM
 rds : RdsM
 start : Int
 base : Int
 linked : Bool
 have_ : Int
structure RepS where
 a : Option Addr
 c : Nat
 lp : Nat
 wp : Nat
 ap : Nat
 rp : Nat
def repCs (R : RepM) (x : RepS) : List Value := [.int .i64 R.id, .int .i64 R.clients, .int .i64 R.cap, .int .i64 R.most, .int .i64 R.ch.epoch, .slice x.a R.ch.ms.length x.c, .int .i64 R.ch.drain, .int .i64 R.since, .bool R.whole,
 .pointer (some ⟨x.lp, 0, none⟩), .pointer (some ⟨x.wp, 0, none⟩), .pointer (some ⟨x.ap, 0, none⟩), .pointer (some ⟨x.rp, 0, none⟩), .int .i64 R.start, .int .i64 R.base, .bool R.linked, .int .i64 R.have_]
def repL (p : Nat) (R : RepM) (x : RepS) : List HP := [pt p (repCs R x) repT, slH memT 2 x.a R.ch.ms.length x.c (flat memC R.ch.ms), logH x.lp R.log, winH x.wp R.win, admH x.ap R.adm, rdsH x.rp R.rds]
def repH (p : Nat) (R : RepM) : HP := hex fun x => hsep (repL p R x)
theorem HOpn.rep (p : Nat) (R : RepM) : HOpn (ι := RepS) (repH p R) (fun _ => True) (fun x => repL p R x) := fun w ids ⟨x, h⟩ hn => ⟨x, trivial, ids, h, hn, fun _ h => h⟩
theorem Imp.rep {p : Nat} {R : RepM} {L M : List HP} (x : RepS) (h : Imp L (repL p R x ++ M)) : Imp L (repH p R :: M) :=
 Imp.ex (f := fun x => hsep (repL p R x)) x (Imp.sep (Ls := repL p R x) h)
structure RepIn (Fr : Nat → Prop) (w : World) (p : Nat) (R : RepM) (x : RepS) : Prop where
 blk : Blk Fr w p (repCs R x)
 mem : RwIn memC 2 Fr w x.a R.ch.ms
 log : SatIn Fr [logH x.lp R.log] w
 win : Blk Fr w x.wp R.win.cells
 adm : SatIn Fr [admH x.ap R.adm] w
 rds : SatIn Fr [rdsH x.rp R.rds] w
theorem RepIn.pcs {Fr : Nat → Prop} {w : World} {L : List HP} {p : Nat} {R : RepM} {x : RepS} (h : SatIn Fr L w) (i : Nat) (h0 : L[i]? = some (pt p (repCs R x) repT)) (h1 : L[i + 1]? = some (slH memT 2 x.a R.ch.ms.length x.c (flat memC R.ch.ms)))
  (h2 : L[i + 2]? = some (logH x.lp R.log)) (h3 : L[i + 3]? = some (winH x.wp R.win)) (h4 : L[i + 4]? = some (admH x.ap R.adm)) (h5 : L[i + 5]? = some (rdsH x.rp R.rds)) : RepIn Fr w p R x :=
 ⟨h.blk i h0, RwIn.slH memC_len (h.at_ _ h1), h.at_ _ h2, h.blk _ h3, h.at_ _ h4, h.at_ _ h5⟩
theorem RepIn.of' {Fr : Nat → Prop} {w : World} {p : Nat} {R : RepM} (h : SatIn Fr [repH p R] w) : ∃ x, RepIn Fr w p R x := by
 obtain ⟨x, h⟩ := h.ex
 exact ⟨x, RepIn.pcs h.sep 0 Z Z Z Z Z Z⟩
theorem RepIn.of {X : Cx} {p : Nat} {R : RepM} {x : RepS} (h : RepIn X.Fr X.w0 p R x) {Fr' : Nat → Prop} {w : World} {L : List HP} (hF : ∀ b, X.Fr b → Fr' b) (hs : St X L w) : RepIn Fr' w p R x :=
 ⟨h.blk.of hF hs, RwIn.of h.mem hF hs, h.log.of hF hs, h.win.of hF hs, h.adm.of hF hs, h.rds.of hF hs⟩
structure ChS (c : ChM) : Prop where
 len : c.ms.length ≤ 1000
section
variable {p : Nat} {R : RepM} {x : RepS} {b : Nat} {S : List SndM}
theorem made_spec (h : Blk Fr w p (repCs R x)) : Tri Tryz.prog 55 [.pointer (some ⟨p, 0, none⟩)] Fr w [] (fun v L => v = .bool true ∧ L = []) := by
 refine TF 12 Tryz.func55 Z ym tabOk Z Z ?_
 refine xdy ?_
 refine VG (VO.split 5 rfl rfl (fun _ => ?_) (fun h => by cases h))
 refine xeb ?_
 exact xej
def RepM.inB (R : RepM) : Bool := decide (0 < R.since)
theorem in_spec (h : Blk Fr w p (repCs R x)) : Tri Tryz.prog 150 [.pointer (some ⟨p, 0, none⟩)] Fr w [] (fun v L => v = .bool R.inB ∧ L = []) := by
 refine TF 8 Tryz.func150 Z ym tabOk Z Z ?_
 refine xeb ?_
 exact xej
def RepM.knownB (R : RepM) (f : FrameM) : Bool := f.epoch == R.ch.epoch
theorem known_spec (h : Blk Fr w p (repCs R x)) (f : FrameM) (m : MemG) : Tri Tryz.prog 62 [.pointer (some ⟨p, 0, none⟩), .agg (fgC f m).toArray] Fr w [] (fun v L => v = .bool (R.knownB f) ∧ L = []) := by
 refine TF 13 Tryz.func62 Z ym tabOk Z Z ?_
 refine CS (CG (VG (VB (vs := fgC f m) Z fun fb => VG (VN ?_))))
 refine CS (CD (ts 0 9 .nil) ym yq ?_)
 refine xiz ?_
 exact CR (Ret.bool 4 Z Z Z Imp.nil.ent ⟨rfl, Z⟩)
def isNodeB (from_ nb : Int) : Bool := decide (0 ≤ nb) && (from_ == nb)
theorem isNode_spec (f n : Int) : Tri Tryz.prog 63 [.int .i64 f, .int .i64 n] Fr w [] (fun v L => v = .bool (isNodeB f n) ∧ L = []) := by
 refine TF 12 Tryz.func63 Z ym tabOk Z Z ?_
 refine xdy ?_
 by_cases h1 : 0 ≤ n
 ·refine VG (VY 7 true Z (DT h1) ?_)
  refine xel ?_
  exact CR (Ret.bool 4 Z Z (by rw [isNodeB, DT h1]; rfl) ER ⟨rfl, Z⟩)
 ·refine VG (VY 7 false Z (DF h1) ?_)
  refine xel ?_
  exact CR (Ret.bool 4 Z Z (by rw [isNodeB, DF h1]; rfl) ER ⟨rfl, Z⟩)
def RepM.prevM (R : RepM) : Int := prevOf R.ch R.id
def RepM.nextM (R : RepM) : Int := nextOf R.ch R.id
theorem prev_spec (h : Blk Fr w p (repCs R x)) (hm : RwIn memC 2 Fr w x.a R.ch.ms) (hc : ChS R.ch) : Tri Tryz.prog 64 [.pointer (some ⟨p, 0, none⟩)] Fr w [] (fun v L => v = .int .i64 R.prevM ∧ L = []) := by
 have hcl := hc.len
 refine TF 12 Tryz.func64 Z ym tabOk Z Z ?_
 refine xep ?_
 refine CS (CD (ts 0 8 (.only 8 (.take 9 .nil))) ym yq ?_)
 refine xef ?_
 refine xja ?_
 refine xef ?_
 refine VA.go (AR (fun Fr w hF hs hS => Ch.prev_spec Fr w (hm.of hF hs) yd R.id) Z Z ybe ?_)
 refine xeh ?_
 exact xeu
theorem next_spec (h : Blk Fr w p (repCs R x)) (hm : RwIn memC 2 Fr w x.a R.ch.ms) (hc : ChS R.ch) : Tri Tryz.prog 66 [.pointer (some ⟨p, 0, none⟩)] Fr w [] (fun v L => v = .int .i64 R.nextM ∧ L = []) := by
 have hcl := hc.len
 refine TF 12 Tryz.func66 Z ym tabOk Z Z ?_
 refine xep ?_
 refine CS (CD (ts 0 8 (.only 8 (.take 9 .nil))) ym yq ?_)
 refine xef ?_
 refine xja ?_
 refine xef ?_
 refine VA.go (AR (fun Fr w hF hs hS => Ch.next_spec Fr w (hm.of hF hs) yd R.id) Z Z ybe ?_)
 refine xeh ?_
 exact xeu
def RepM.headB (R : RepM) : Bool := R.inB && (headOf R.ch == R.id)
def RepM.tailB (R : RepM) : Bool := R.inB && (tailOf R.ch == R.id)
def RepM.drainsB (R : RepM) : Bool := R.inB && (R.ch.drain == R.id)
theorem head_spec (h : Blk Fr w p (repCs R x)) (hm : RwIn memC 2 Fr w x.a R.ch.ms) (hc : ChS R.ch) : Tri Tryz.prog 82 [.pointer (some ⟨p, 0, none⟩)] Fr w [] (fun v L => v = .bool R.headB ∧ L = []) := by
 have hcl := hc.len
 refine TF 17 Tryz.func82 Z ym tabOk Z Z ?_
 refine xep ?_
 refine xjb ?_
 refine xjc ?_
 refine xeh ?_
 cases hi : R.inB with
 | true =>
  refine VA.go (AY 5 true Z Z ?_)
  refine xjd ?_
  refine xja ?_
  refine xjd ?_
  refine VA.go (AR (fun Fr w hF hs hS => Ch.head_spec Fr w (hm.of hF hs) yd) Z Z ybe ?_)
  refine xeq ?_
  exact CR (Ret.bool 2 Z Z (by rw [RepM.headB, hi]; rfl) ER ⟨rfl, Z⟩)
 | false =>
  refine VA.go (AY 5 false Z Z ?_)
  refine xjd ?_
  refine zql ?_
  exact CR (Ret.bool 2 Z Z (by rw [RepM.headB, hi]; rfl) ER ⟨rfl, Z⟩)
theorem tail_spec (h : Blk Fr w p (repCs R x)) (hm : RwIn memC 2 Fr w x.a R.ch.ms) (hc : ChS R.ch) : Tri Tryz.prog 134 [.pointer (some ⟨p, 0, none⟩)] Fr w [] (fun v L => v = .bool R.tailB ∧ L = []) := by
 have hcl := hc.len
 refine TF 17 Tryz.func134 Z ym tabOk Z Z ?_
 refine xep ?_
 refine xjb ?_
 refine xjc ?_
 refine xeh ?_
 cases hi : R.inB with
 | true =>
  refine VA.go (AY 5 true Z Z ?_)
  refine xjd ?_
  refine xja ?_
  refine xjd ?_
  refine VA.go (AR (fun Fr w hF hs hS => Ch.tail_spec Fr w (hm.of hF hs) yd) Z Z ybe ?_)
  refine xeq ?_
  exact CR (Ret.bool 2 Z Z (by rw [RepM.tailB, hi]; rfl) ER ⟨rfl, Z⟩)
 | false =>
  refine VA.go (AY 5 false Z Z ?_)
  refine xjd ?_
  refine zql ?_
  exact CR (Ret.bool 2 Z Z (by rw [RepM.tailB, hi]; rfl) ER ⟨rfl, Z⟩)
theorem drains_spec (h : Blk Fr w p (repCs R x)) : Tri Tryz.prog 83 [.pointer (some ⟨p, 0, none⟩)] Fr w [] (fun v L => v = .bool R.drainsB ∧ L = []) := by
 refine TF 17 Tryz.func83 Z ym tabOk Z Z ?_
 refine xep ?_
 refine CS (CD (.take 0 (.only 1 (ts 2 13 .nil))) ym yq ?_)
 refine xjc ?_
 refine xeh ?_
 cases hi : R.inB with
 | true =>
  refine VA.go (AY 5 true Z Z ?_)
  refine xjd ?_
  exact CR (Ret.bool 2 Z Z (by rw [RepM.drainsB, hi]; rfl) ER ⟨rfl, Z⟩)
 | false =>
  refine VA.go (AY 5 false Z Z ?_)
  refine xjd ?_
  exact CR (Ret.bool 2 Z Z (by rw [RepM.drainsB, hi]; rfl) ER ⟨rfl, Z⟩)
end
end Rep
namespace Rep
open Go Vg T Api Kv Ch Lg Rd Win Adm
attribute [local irreducible] VO VC VA
def replyF (client seq try_ : Int) (r : ResM) : FrameM := { FrameM.zero with kind := 2, client := client, seq := seq, try_ := try_, res := r }
def refuseF (epoch : Int) (f : FrameM) (reason : Int) : FrameM := { FrameM.zero with kind := 3, epoch := epoch, client := f.client, seq := f.seq, try_ := f.try_, reason := reason }
def ackF (epoch i g h : Int) : FrameM := { FrameM.zero with kind := 5, epoch := epoch, index := i, grant := g, have_ := h }
def baseF (epoch i : Int) : FrameM := { FrameM.zero with kind := 6, epoch := epoch, index := i }
def aliveF (epoch i : Int) : FrameM := { FrameM.zero with kind := 11, epoch := epoch, index := i }
section
variable {p : Nat} {R : RepM} {x : RepS} {b : Nat} {S : List SndM}
theorem reply_spec (hS : S.length ≤ 1000000) (client seq try_ : Int) (hc0 : 0 ≤ client) (hc1 : client ≤ 1000000) (r : ResM) : Tri Tryz.prog 70 [.int .i64 client, .int .i64 seq, .int .i64 try_, .agg (resC r).toArray, sendF b] Fr w [outH b S]
  (fun v L => v = .tuple #[] ∧ L = [outH b (S ++ [(32 + client, replyF client seq try_ r)])]) := by
 refine TF 19 Tryz.func70 Z ym tabOk Z Z ?_
 refine CS (CG (VG (VB (vs := resC r) Z fun rb => ?_)))
 refine zpf ?_
 refine VG (VL 0 (resC r) Z Z Z Z ?_)
 refine VG (VI (LB (pv := [(0, .int .i64 2), (2, .int .i64 client), (3, .int .i64 seq), (4, .int .i64 try_), (8, .agg (resC r).toArray)]) (fgC (replyF client seq try_ r) mem0) Z Z Z ym Z) ?_)
 refine VG (VO.callFAt 1 Z Z (fun Fr w hF hs _ => add_spec Fr w b S hS (32 + client) (replyF client seq try_ r)) Z (ψ := fun v H => v = .tuple #[] ∧ H = outH b (S ++ [(32 + client, replyF client seq try_ r)])) yz ?_)
 rintro _ _ ⟨rfl, rfl⟩
 refine xdy ?_
 exact xje
theorem refuse_spec (h : Blk Fr w p (repCs R x)) (hS : S.length ≤ 1000000) (f : FrameM) (m : MemG) (hc0 : 0 ≤ f.client) (hc1 : f.client ≤ 1000000) (reason : Int) : Tri Tryz.prog 81 [.pointer (some ⟨p, 0, none⟩), .agg (fgC f m).toArray, .int .i64 reason, sendF b] Fr w [outH b S]
  (fun v L => v = .tuple #[] ∧ L = [outH b (S ++ [(32 + f.client, refuseF R.ch.epoch f reason)])]) := by
 refine TF 26 Tryz.func81 Z ym tabOk Z Z ?_
 refine CS (CG (VG (VB (vs := fgC f m) Z fun fb => VG (VN ?_))))
 refine CD (ts 0 17 (.only 17 .nil)) ym yq ?_
 refine xiz ?_
 refine xeg ?_
 refine xiz ?_
 refine VA.go (AI Z (LB (pv := [(0, .int .i64 3), (1, .int .i64 R.ch.epoch), (2, .int .i64 f.client), (3, .int .i64 f.seq), (4, .int .i64 f.try_), (9, .int .i64 reason)]) (fgC (refuseF R.ch.epoch f reason) mem0) Z Z Z ym Z) ?_)
 refine VA.go (VA.callFAt 1 Z Z (fun Fr w hF hs _ => add_spec Fr w b S hS (32 + f.client) (refuseF R.ch.epoch f reason)) Z Z (ψ := fun v H => v = .tuple #[] ∧ H = outH b (S ++ [(32 + f.client, refuseF R.ch.epoch f reason)])) yz ?_ ?_)
 ·rintro _ _ ⟨rfl, rfl⟩
  exact (by (try refine Pd.st ?_);(repeat (first|exact Pd.nil|exact Pd.fnil|refine Pd.inner ?_|refine Pd.skip yq ?_|refine zf (zo 0 Z Z) ?_|refine zf (zm 0 Z Z) ?_|refine zf (RdL.blk (RdL.blk h Z) Z) ?_|refine zf ((RdL.blk h Z)) ?_|refine zc (zo 0 Z Z) ?_|refine zc (zm 0 Z Z) ?_|refine zc (RdL.blk (RdL.blk h Z) Z) ?_|refine zc ((RdL.blk h Z)) ?_)))
 rintro _ _ ⟨rfl, rfl⟩
 refine xeh ?_
 exact xje
def RepM.greetM (R : RepM) : List SndM := if R.prevM < 0 then [] else [(R.prevM, ackF R.ch.epoch R.win.done (if R.drainsB then R.win.last else R.win.done + R.win.cap) R.win.last)]
theorem greet_spec (h : RepIn Fr w p R x) (hc : ChS R.ch) (hw : R.win.Ok) (hS : S.length ≤ 1000000) : Tri Tryz.prog 100 [.pointer (some ⟨p, 0, none⟩), sendF b] Fr w [outH b S] (fun v L => v = .tuple #[] ∧ L = [outH b (S ++ R.greetM)]) := by
 have hb := h.blk
 have w0 := hw.cap0
 refine TF 42 Tryz.func100 Z ym tabOk Z Z ?_
 refine xdy ?_
 refine VG (VV (fun Fr w hF hs _ => Rep.prev_spec Fr w (h.of hF hs).blk (h.of hF hs).mem hc) Z ?_)
 refine xdy ?_
 refine CP Z (fun h1 => ?_) (fun h1 => CK ?_)
 ·exact CR (Ret.void Z ER ⟨rfl, by rw [RepM.greetM, if_pos h1, List.append_nil]⟩)
 refine xfh ?_
 refine VG (VV (fun Fr w hF hs _ => Win.offer_spec Fr w (h.of hF hs).win hw) Z ?_)
 refine VG (VN (CS ?_))
 refine VC.meetS (σ := Unit) (fun _ => [(0, pV p), (1, sendF b), (4, .int .i64 R.prevM), (5, .int .i64 (if R.drainsB then R.win.last else R.win.done + R.win.cap))]) (fun _ => [outH b S]) (fun _ => True) ?_ ?_
 ·refine xdy ?_
  refine VG (VV (fun Fr w hF hs _ => drains_spec Fr w (h.of hF hs).blk) Z ?_)
  refine xdy ?_
  refine CC Z (fun hd => ?_) (fun hd => CK ?_)
  ·refine xfh ?_
   refine VG (VV (fun Fr w hF hs _ => Win.last_spec Fr w (h.of hF hs).win w0) Z ?_)
   refine xdy ?_
   exact xjf
  ·exact xjf
 rintro _ -
 refine CD (ts 0 11 (ts 12 5 (.only 11 (.only 17 (.take 18 (.only 19 .nil)))))) ym yq ?_
 refine xfm ?_
 refine VA.go (AR (fun Fr w hF hs hS => Win.done_spec Fr w (h.of hF hs).win w0) Z Z yw ?_)
 refine VA.go (AR (fun Fr w hF hs hS => Win.last_spec Fr w (h.of hF hs).win w0) Z Z yw ?_)
 refine VA.go (AI Z (LB (pv := [(0, .int .i64 5), (1, .int .i64 R.ch.epoch), (12, .int .i64 R.win.done), (13, .int .i64 (if R.drainsB then R.win.last else R.win.done + R.win.cap)), (14, .int .i64 R.win.last)]) (fgC (ackF R.ch.epoch R.win.done (if R.drainsB then R.win.last else R.win.done + R.win.cap) R.win.last) mem0) Z Z Z ym Z) ?_)
 refine VA.go (VA.callFAt 0 Z Z (fun Fr w hF hs _ => add_spec Fr w b S hS R.prevM (ackF R.ch.epoch R.win.done (if R.drainsB then R.win.last else R.win.done + R.win.cap) R.win.last)) Z Z (ψ := fun v H => v = .tuple #[] ∧ H = outH b (S ++ [(R.prevM, ackF R.ch.epoch R.win.done (if R.drainsB then R.win.last else R.win.done + R.win.cap) R.win.last)])) yz ?_ ?_)
 ·rintro _ _ ⟨rfl, rfl⟩
  exact yw
 rintro _ _ ⟨rfl, rfl⟩
 refine xeh ?_
 exact Ret.void Z ER ⟨rfl, by rw [RepM.greetM, if_neg h1]; rfl⟩
def RepM.baseM (R : RepM) : List SndM := if R.whole = true ∧ 0 ≤ R.nextM then [(R.nextM, baseF R.ch.epoch R.start)] else []
theorem tellBase_spec (h : RepIn Fr w p R x) (hc : ChS R.ch) (hS : S.length ≤ 1000000) : Tri Tryz.prog 101 [.pointer (some ⟨p, 0, none⟩), sendF b] Fr w [outH b S] (fun v L => v = .tuple #[] ∧ L = [outH b (S ++ R.baseM)]) := by
 have hb := h.blk
 refine TF 28 Tryz.func101 Z ym tabOk Z Z ?_
 refine xdy ?_
 refine VG (VV (fun Fr w hF hs _ => Rep.next_spec Fr w (h.of hF hs).blk (h.of hF hs).mem hc) Z ?_)
 refine xfh ?_
 cases hwh : R.whole with
 | false =>
  refine VG (VY 11 false Z Z ?_)
  refine xjg ?_
  refine xed ?_
  exact Ret.void Z ER ⟨rfl, by rw [RepM.baseM, if_neg (by rw [hwh]; simp), List.append_nil]⟩
 | true =>
  refine VG (VY 11 true Z Z ?_)
  refine xjg ?_
  refine CP Z (fun h1 => ?_) (fun h1 => CK ?_)
  ·refine CD (ts 0 12 (.only 12 .nil)) ym yq ?_
   refine xfm ?_
   refine VA.go (AI Z (LB (pv := [(0, .int .i64 6), (1, .int .i64 R.ch.epoch), (12, .int .i64 R.start)]) (fgC (baseF R.ch.epoch R.start) mem0) Z Z Z ym Z) ?_)
   refine VA.go (VA.callFAt 0 Z Z (fun Fr w hF hs _ => add_spec Fr w b S hS R.nextM (baseF R.ch.epoch R.start)) Z Z (ψ := fun v H => v = .tuple #[] ∧ H = outH b (S ++ [(R.nextM, baseF R.ch.epoch R.start)])) yz ?_ ?_)
   ·rintro _ _ ⟨rfl, rfl⟩
    exact yw
   rintro _ _ ⟨rfl, rfl⟩
   refine xeh ?_
   exact Ret.void Z ER ⟨rfl, by rw [RepM.baseM, if_pos ⟨hwh, h1⟩]; rfl⟩
  ·exact Ret.void Z ER ⟨rfl, by rw [RepM.baseM, if_neg (fun h => h1 h.2), List.append_nil]⟩
def RepM.masterM (R : RepM) : List SndM := [(16, aliveF R.ch.epoch (if R.whole then 1 else 0))]
theorem tellMaster_spec (hb : Blk Fr w p (repCs R x)) (hS : S.length ≤ 1000000) : Tri Tryz.prog 99 [.pointer (some ⟨p, 0, none⟩), sendF b] Fr w [outH b S] (fun v L => v = .tuple #[] ∧ L = [outH b (S ++ R.masterM)]) := by
 refine TF 19 Tryz.func99 Z ym tabOk Z Z ?_
 refine xfh ?_
 refine VG (VI (LB (pv := [(0, .int .i64 11), (1, .int .i64 R.ch.epoch)]) (fgC (aliveF R.ch.epoch 0) mem0) Z Z Z ym Z) ?_)
 refine VG (VO.alloc Z fun fb => ?_)
 refine VG (VT (vs := fgC (aliveF R.ch.epoch 0) mem0) 0 Z Z Z Z (NR _) Z Z Z ?_)
 refine VG (VN (CS ?_))
 refine VC.meetS (σ := Unit) (fun _ => [(1, sendF b), (4, pV fb)]) (fun _ => [pt fb (fgC (aliveF R.ch.epoch (if R.whole then 1 else 0)) mem0) frT, outH b S]) (fun _ => True) ?_ ?_
 ·refine xfh ?_
  refine CC Z (fun hd => ?_) (fun hd => CK ?_)
  ·refine xdy ?_
   refine VG (VO.st 0 (cs' := fgC (aliveF R.ch.epoch 1) mem0) Z Z Z Z (Nat.le_of_ble_eq_true Z) Z Z ?_)
   refine xdy ?_
   exact ⟨(), trivial, sbZ, by rw [hd]; exact ER⟩
  ·exact ⟨(), trivial, sbZ, by rw [hd]; exact ER⟩
 rintro _ -
 refine xdy ?_
 refine VG (VL 0 (fgC (aliveF R.ch.epoch (if R.whole then 1 else 0)) mem0) Z Z Z Z ?_)
 refine VG (VO.callFAt 1 Z Z (fun Fr w hF hs _ => add_spec Fr w b S hS 16 (aliveF R.ch.epoch (if R.whole then 1 else 0))) Z (ψ := fun v H => v = .tuple #[] ∧ H = outH b (S ++ R.masterM)) yz ?_)
 rintro _ _ ⟨rfl, rfl⟩
 refine xdy ?_
 exact xje
end
end Rep
namespace Rep
open Go Vg T Api Kv Ch Lg Rd Win Adm
attribute [local irreducible] VO VC VA
structure RepM.Ok (R : RepM) : Prop where
 ch : ChS R.ch
 win : R.win.Ok
 last : R.win.last = R.log.length
 logc : ∀ e ∈ R.log, 0 ≤ e.client ∧ e.client < 6
 logi : ∀ e ∈ R.log, 1 ≤ e.index ∧ e.index ≤ R.log.length
 rc0 : 1 ≤ R.rds.cap
 rc1 : R.rds.cap ≤ 16
 rl : (R.rds.l.length : Int) ≤ R.rds.cap
 rn0 : 0 ≤ R.rds.last
 rn1 : R.rds.last ≤ 100000000
 rcl : ∀ y ∈ R.rds.l, 0 ≤ y.f.client ∧ y.f.client ≤ 1000
 calls : R.adm.Calls
 wf : R.adm.Wf
theorem lastOf_mem (es : List EntryM) (c : Int) : lastOf es c = (0, 0) ∨ ∃ e ∈ es, lastOf es c = (e.seq, e.index) ∧ e.client = c := by
 have : ∀ (es : List EntryM) (p : Int × Int), es.foldl (lastStep c) p = p ∨ ∃ e ∈ es, es.foldl (lastStep c) p = (e.seq, e.index) ∧ e.client = c := by
  intro es
  induction es with
  | nil => intro p; exact .inl rfl
  | cons e es ih =>
   intro p
   rw [List.foldl_cons]
   rcases ih (lastStep c p e) with h | ⟨d, hd, h, h2⟩
   ·rw [h]
    unfold lastStep
    split
    ·exact .inr ⟨e, by simp, Z, by assumption⟩
    ·exact .inl rfl
   ·exact .inr ⟨d, by simp [hd], h, h2⟩
 exact this es (0, 0)
theorem RepM.Ok.lasti {R : RepM} (h : R.Ok) (c : Int) : 0 ≤ (lastR R.log c).2 ∧ (lastR R.log c).2 ≤ R.log.length := by
 unfold lastR
 split
 ·rcases lastOf_mem R.log c with h1 | ⟨e, he, h1, _⟩
  ·rw [h1]; exact ⟨Int.le_refl _, by simp⟩
  ·rw [h1]; have := h.logi e he; exact ⟨by show 0 ≤ e.index; omega, this.2⟩
 ·exact ⟨Int.le_refl _, by simp⟩
def repO (p : Nat) (R : RepM) (x : RepS) (b : Nat) (S : List SndM) : List HP := [pt p (repCs R x) repT, slH memT 2 x.a R.ch.ms.length x.c (flat memC R.ch.ms), logH x.lp R.log, winH x.wp R.win, admH x.ap R.adm, rdsH x.rp R.rds, outH b S]
theorem repO_shut {p : Nat} {R : RepM} {x : RepS} {b : Nat} {S : List SndM} : Imp (repO p R x b S) [repH p R, outH b S] := Imp.rep x (pkZ [0, 0, 0, 0, 0, 0, 0])
def replyOf (R : RepM) (i : Int) : SndM := (32 + ((atI R.log i).getD entZ).client, replyF ((atI R.log i).getD entZ).client ((atI R.log i).getD entZ).seq 0 ((atI (logRun R.log).2 i).getD resZ))
def replies (R : RepM) (k : Nat) : List SndM := (List.range k).map fun j => replyOf R (R.win.done + 1 + (j : Nat))
def RepM.finishM (R : RepM) : List SndM := if R.tailB then replies R (R.win.last - R.win.done).toNat else []
def RepM.finishR (R : RepM) : RepM := if R.tailB then { R with win := R.win.ack R.win.last } else R
section
variable {p : Nat} {R : RepM} {b : Nat} {S : List SndM}
theorem finish_spec (ok : R.Ok) (hS : S.length ≤ 900000) : Tri Tryz.prog 143 [.pointer (some ⟨p, 0, none⟩), sendF b] Fr w [repH p R, outH b S] (fun v L => v = .tuple #[] ∧ L = [repH p R.finishR, outH b (S ++ R.finishM)]) := by
 have w0 := ok.win.cap0
 have d0 := ok.win.done0; have d1 := ok.win.done1; have d2 := ok.win.last1
 refine TF 62 Tryz.func143 Z ym tabOk Z Z ?_
 refine xjh ?_
 rintro x -
 show VC _ _ _ (repO p R x b S) _
 unfold repO
 refine xdy ?_
 refine xji ?_
 refine xdy ?_
 refine VC.condN Z (fun ht => ?_) (fun ht => CK ?_)
 ·exact CR (Ret.void Z repO_shut.ent ⟨rfl, by rw [RepM.finishR, RepM.finishM, ht]; simp⟩)
 refine xdy ?_
 refine xjj ?_
 refine xdy ?_
 refine xjk ?_
 refine xdy ?_
 refine VG (VQ 3 Z (fun Fr w hF hs hS => Win.ack_spec Fr w ok.win R.win.last) Z (ψ := fun v H => v = .bool (R.win.ackB R.win.last) ∧ H = winH x.wp (R.win.ack R.win.last)) yz ?_)
 rintro _ _ ⟨rfl, rfl⟩
 refine zpg ?_
 refine VC.loop (σ := Nat) (fun k => [(0, pV p), (1, sendF b), (5, .int .i64 R.win.last), (6, .int .i64 (R.win.done + 1 + (k : Nat)))])
  (fun k => [pt p (repCs R x) repT, slH memT 2 x.a R.ch.ms.length x.c (flat memC R.ch.ms), logH x.lp R.log, winH x.wp (R.win.ack R.win.last), admH x.ap R.adm, rdsH x.rp R.rds, outH b (S ++ replies R k)])
  (fun k => k ≤ (R.win.last - R.win.done).toNat) (fun k => (R.win.last - R.win.done).toNat - k) 0
  (Nat.zero_le _) (SC rfl (SC rfl (SC rfl (Sub.int rfl ya (SN _))))) (by rw [show replies R 0 = [] from rfl, List.append_nil]; exact ER) ?_
 intro k hk
 have hrl : (replies R k).length = k := by simp [replies]
 refine xdy ?_
 refine CP Z (fun h1 => CK ?_) (fun h1 => CX ?_)
 ·obtain ⟨j, e, hj1, hj2, hj3, hj4⟩ := atI_some (l := R.log) (i := R.win.done + 1 + (k : Nat)) yd (by have := ok.last; omega)
  have hcl := ok.logc e (ME hj3)
  refine xdy ?_
  refine VG (VV (fun Fr w hF hs hS => Lg.at_spec Fr w (hS.at_ 2 Z) (R.win.done + 1 + (k : Nat)) yd yd) Z ?_)
  refine xdy ?_
  refine VG (VO.alloc Z fun eb => ?_)
  refine VG (VT (vs := entC ((atI R.log (R.win.done + 1 + (k : Nat))).getD entZ)) 0 Z Z Z Z (NR _) Z Z Z ?_)
  refine xgb ?_
  refine VG (VV (fun Fr w hF hs hS => Lg.result_spec Fr w (hS.at_ 3 Z) (R.win.done + 1 + (k : Nat)) yd yd) Z ?_)
  refine xgb ?_
  refine VG (VO.alloc Z fun rb => ?_)
  refine VG (VT (vs := resC ((atI (logRun R.log).2 (R.win.done + 1 + (k : Nat))).getD resZ)) 0 Z Z Z Z (NR _) Z Z Z ?_)
  refine xgb ?_
  refine VG (VL 0 (resC ((atI (logRun R.log).2 (R.win.done + 1 + (k : Nat))).getD resZ)) Z Z Z Z ?_)
  refine VG (VQ 8 Z (fun Fr w hF hs hS => reply_spec Fr w (by rw [List.length_append, hrl]; omega) ((atI R.log (R.win.done + 1 + (k : Nat))).getD entZ).client ((atI R.log (R.win.done + 1 + (k : Nat))).getD entZ).seq 0 (by rw [hj4]; exact hcl.1) (by rw [hj4]; have := hcl.2; show e.client ≤ _; omega) ((atI (logRun R.log).2 (R.win.done + 1 + (k : Nat))).getD resZ)) Z (ψ := fun v H => v = .tuple #[] ∧ H = outH b (S ++ replies R k ++ [replyOf R (R.win.done + 1 + (k : Nat))])) yz ?_)
  rintro _ _ ⟨rfl, rfl⟩
  refine zpg ?_
  refine ⟨k + 1, by omega, by dsimp only; omega, SC Z (SC Z (SC Z (Sub.int Z (by push_cast; omega) (SN _)))), ?_⟩
  dsimp only
  rw [show replies R (k + 1) = replies R k ++ [replyOf R (R.win.done + 1 + (k : Nat))] by simp [replies, List.range_succ], ← List.append_assoc]
  exact (pkZ [2, 2, 2, 2, 2, 2, 2]).ent
 ·obtain rfl : k = (R.win.last - R.win.done).toNat := by omega
  exact Ret.void Z (Imp.rep (R := { R with win := R.win.ack R.win.last }) x (IP 0 Z (IP 0 Z (IP 0 Z (IP 0 Z (IP 0 Z (IP 0 Z (IP 0 Z Imp.nil)))))))).ent ⟨rfl, by rw [RepM.finishR, RepM.finishM, ht]; simp⟩
def RepM.becomeB (R : RepM) : Bool := R.inB && (!R.whole && (decide (R.base ≠ -1) && decide (R.base ≤ R.win.last)))
def RepM.becomeR (R : RepM) : RepM := if R.becomeB then { R with whole := true, start := R.win.last } else R
def RepM.becomeM (R : RepM) : List SndM := if R.becomeB then R.becomeR.baseM else []
theorem become_spec (ok : R.Ok) (hS : S.length ≤ 900000) : Tri Tryz.prog 68 [.pointer (some ⟨p, 0, none⟩), sendF b] Fr w [repH p R, outH b S] (fun v L => v = .tuple #[] ∧ L = [repH p R.becomeR, outH b (S ++ R.becomeM)]) := by
 have w0 := ok.win.cap0
 refine TF 46 Tryz.func68 Z ym tabOk Z Z ?_
 refine xjh ?_
 rintro x -
 show VC _ _ _ (repO p R x b S) _
 refine CS (CS ?_)
 have S3 : ∀ {E : Env} {t : Bool}, Vg.look E 31 = some (.bool t) → t = (!R.becomeB) → Vg.look E 0 = some (.pointer (some ⟨p, 0, none⟩)) → Vg.look E 1 = some (sendF b) → Sub [(0, pV p), (1, sendF b), (31, .bool (!R.becomeB))] E := fun h0 h1 h2 h3 => SC h2 (SC h3 (Sub.bl h0 h1 (SN _)))
 refine VC.meetS (σ := Unit) (fun _ => [(0, pV p), (1, sendF b), (31, .bool (!R.becomeB))]) (fun _ => repO p R x b S) (fun _ => True) ?_ ?_
 ·refine CD (.take 0 (.only 1 (ts 2 19 (ts 22 4 (.only 21 (ts 26 2 .nil)))))) ym yq ?_
  refine VA.go (AR (fun Fr w hF hs hS => in_spec Fr w (RepIn.pcs hS 0 Z Z Z Z Z Z).blk) Z Z yr ?_)
  refine xeh ?_
  cases h1 : R.inB with
  | false =>
   refine VA.go (AY 7 true Z Z ?_)
   refine xeq ?_
   refine VA.go (AY 13 true Z Z ?_)
   refine xeq ?_
   refine VA.go (AY 20 true Z Z ?_)
   refine xeq ?_
   refine zql ?_
   exact ⟨(), trivial, S3 Z (by rw [RepM.becomeB, h1]; rfl) Z Z, ER⟩
  | true =>
  refine VA.go (AY 7 false Z Z ?_)
  refine xeq ?_
  cases h2 : R.whole with
  | true =>
   refine VA.go (AY 13 true Z Z ?_)
   refine xeq ?_
   refine VA.go (AY 20 true Z Z ?_)
   refine xeq ?_
   refine zql ?_
   exact ⟨(), trivial, S3 Z (by rw [RepM.becomeB, h1, h2]; rfl) Z Z, ER⟩
  | false =>
  have q8 : (repCs R x)[0 + 8]? = some (.bool false) := by show some (Value.bool R.whole) = _; rw [h2]
  refine VA.go (AY 13 false Z Z ?_)
  refine xeq ?_
  by_cases h3 : R.base = -1
  ·refine VA.go (AY 20 true Z (by simp [h3]) ?_)
   refine xeq ?_
   refine zql ?_
   exact ⟨(), trivial, S3 Z (by rw [RepM.becomeB, h1, h2, h3]; rfl) Z Z, ER⟩
  refine VA.go (AY 20 false Z (by simp [h3]) ?_)
  refine xeq ?_
  refine VA.go (AR (fun Fr w hF hs hS => Win.last_spec Fr w (RepIn.pcs hS 0 Z Z Z Z Z Z).win w0) Z Z (by (try refine Pd.st ?_);(repeat (first|exact Pd.nil|exact Pd.fnil|refine Pd.inner ?_|refine Pd.skip yq ?_|refine zf (zo 0 Z Z) ?_|refine zf (zm 0 Z Z) ?_|refine zf (RdL.blk (RdL.one 0 Z q8) Z) ?_|refine zf ((RdL.one 0 Z q8)) ?_|refine zc (zo 0 Z Z) ?_|refine zc (zm 0 Z Z) ?_|refine zc (RdL.blk (RdL.one 0 Z q8) Z) ?_|refine zc ((RdL.one 0 Z q8)) ?_))) ?_)
  refine xeq ?_
  exact ⟨(), trivial, S3 Z (by
   rw [RepM.becomeB, h1, h2, DT (show R.base ≠ -1 from h3)]
   by_cases h4 : R.win.last < R.base
   ·rw [DT h4, DF (show ¬ R.base ≤ R.win.last by omega)]; rfl
   ·rw [DF h4, DT (show R.base ≤ R.win.last by omega)]; rfl) rfl rfl, ER⟩
 rintro _ -
 refine VC.condN Z (fun hb => ?_) (fun hb => CK ?_)
 ·exact CR (Ret.void Z repO_shut.ent ⟨rfl, by rw [RepM.becomeR, RepM.becomeM, hb]; simp⟩)
 have hbR : R.becomeR = { R with whole := true, start := R.win.last } := by rw [RepM.becomeR, hb]; rfl
 have hbM : R.becomeM = R.becomeR.baseM := by rw [RepM.becomeM, hb]; rfl
 unfold repO
 refine xdy ?_
 refine VG (VO.st 0 (cs' := repCs { R with whole := true } x) Z Z Z Z (Nat.le_of_ble_eq_true Z) Z Z ?_)
 refine xdy ?_
 refine xjk ?_
 refine VG (VO.st 0 (cs' := repCs { R with whole := true, start := R.win.last } x) Z Z Z Z (Nat.le_of_ble_eq_true Z) Z Z ?_)
 refine xdy ?_
 refine VG (VQ 6 Z (fun Fr w hF hs hS => tellBase_spec (R := { R with whole := true, start := R.win.last }) Fr w (RepIn.pcs hS 0 Z Z Z Z Z Z) ok.ch yd) Z (ψ := fun v H => v = .tuple #[] ∧ H = outH b (S ++ RepM.baseM { R with whole := true, start := R.win.last })) yz ?_)
 rintro _ _ ⟨rfl, rfl⟩
 refine xdy ?_
 exact Ret.void Z (repO_shut (R := { R with whole := true, start := R.win.last }) (x := x)).ent ⟨rfl, by rw [hbM, hbR]⟩
end
end Rep
namespace Rep
open Go Vg T Api Kv Ch Lg Rd Win Adm
attribute [local irreducible] VO VC VA
def judgeM (R : RepM) (f : FrameM) (now : Int) : Int × ResM × AdmM :=
 if R.adm.may f = false then (10, resZ, R.adm)
 else if R.adm.barred f.client f.seq f.try_ = true then (7, resZ, R.adm)
 else if R.knownB f = false then (5, resZ, R.adm)
 else if R.headB = false then (4, resZ, R.adm)
 else if R.whole = false then (8, resZ, R.adm)
 else if R.drainsB = true then (3, resZ, R.adm)
 else if f.seq = (lastR R.log f.client).1 ∧ R.win.done < (lastR R.log f.client).2 then (6, resZ, R.adm)
 else if f.seq = (lastR R.log f.client).1 then (0, (atI (logRun R.log).2 (lastR R.log f.client).2).getD resZ, R.adm)
 else if f.seq < (lastR R.log f.client).1 then (7, resZ, R.adm)
 else if 4096 ≤ R.log.length then (1, resZ, R.adm)
 else ((R.adm.offerM f now).1, resZ, (R.adm.offerM f now).2)
section
variable {p : Nat} {R : RepM}
theorem judge_spec (ok : R.Ok) (f : FrameM) (m : MemG) (hmm : MIn Fr w m) (now : Int) : Tri Tryz.prog 137 [.pointer (some ⟨p, 0, none⟩), .agg (fmc (f, m)).toArray, .int .i64 now] Fr w [repH p R]
  (fun v L => v = .tuple #[.int .i64 (judgeM R f now).1, .agg (resC (judgeM R f now).2.1).toArray] ∧ L = [repH p { R with adm := (judgeM R f now).2.2 }]) := by
 have w0 := ok.win.cap0
 refine TF 116 Tryz.func137 Z ym tabOk Z Z ?_
 refine CS (CG (VG (VB (vs := fmc (f, m)) Z fun fb => ?_)))
 refine VG (VO.alloc Z fun rb => VG (VN ?_))
 refine VC.opn 2 Z (HOpn.rep p R) ?_
 rintro x -
 have fin : ∀ {X : Cx} {fn : Func} {E : Env} (z : Int) (rr : ResM) (A' : AdmM), fn.results = #[.tmp 6, .cell 7 resT] → tyLook X.tab resT = some T.t42 → Vg.look E 6 = some (.int .i64 z) → Vg.look E 7 = some (.pointer (some ⟨rb, 0, none⟩)) → judgeM R f now = (z, rr, A') →
   Ret X fn (fun v L => v = .tuple #[.int .i64 (judgeM R f now).1, .agg (resC (judgeM R f now).2.1).toArray] ∧ L = [repH p { R with adm := (judgeM R f now).2.2 }]) E [pt p (repCs R x) repT, slH memT 2 x.a R.ch.ms.length x.c (flat memC R.ch.ms), logH x.lp R.log, winH x.wp R.win, admH x.ap A', rdsH x.rp R.rds, pt rb (resC rr) resT, pt fb (fmc (f, m)) frT] := fun z rr A' hr hT h4 h5 hj =>
  Ret.tmpCell 6 7 hr h4 h5 hT (RdL.many (ds := resC rr) 6 rfl rfl) (Imp.rep (R := { R with adm := A' }) x (IP 0 rfl (IP 0 rfl (IP 0 rfl (IP 0 rfl (IP 0 rfl (IP 0 rfl Imp.nil))))))).ent ⟨by rw [hj], by rw [hj]⟩
 show VC _ _ _ [pt p (repCs R x) repT, slH memT 2 x.a R.ch.ms.length x.c (flat memC R.ch.ms), logH x.lp R.log, winH x.wp R.win, admH x.ap R.adm, rdsH x.rp R.rds, pt rb (resC resZ) resT, pt fb (fmc (f, m)) frT] _
 refine xdx ?_
 refine CS (CD (ts 0 5 (.only 5 (ts 6 2 .nil))) ym yq ?_)
 refine xjl ?_
 refine VA.go (VA.ldA 7 (fmc (f, m)) Z Z Z Z Z ?_)
 refine VA.go (AR (fun Fr w hF hs hS => may_spec Fr w (f, m) (hS.at_ 4 Z)) Z Z yr ?_)
 refine xeh ?_
 refine VC.condN Z (fun h1 => ?_) (fun h1 => ?_)
 ·refine zqc ?_
  exact CR (fin 10 resZ R.adm Z Z Z Z (by rw [judgeM, if_pos h1]))
 have k1 : ¬ R.adm.may f = false := by rw [h1]; simp
 refine CS (CD (ts 0 10 (.only 10 (.take 11 .nil))) ym yq ?_)
 refine xjl ?_
 refine VA.go (AR (fun Fr w hF hs hS => barred_spec Fr w f.client f.seq f.try_ (hS.at_ 4 Z)) Z Z yr ?_)
 refine xeh ?_
 refine CC Z (fun h2 => ?_) (fun h2 => ?_)
 ·refine zqc ?_
  exact CR (fin 7 resZ R.adm Z Z Z Z (by rw [judgeM, if_neg k1, if_pos h2]))
 have k2 : ¬ R.adm.barred f.client f.seq f.try_ = true := by rw [h2]; simp
 refine xjp ?_
 refine VG (VL 7 (fmc (f, m)) Z Z Z Z ?_)
 refine VG (VV (fun Fr w hF hs hS => known_spec Fr w (hS.blk 0 Z) f m) Z ?_)
 refine xdy ?_
 refine VC.condN Z (fun h3 => ?_) (fun h3 => ?_)
 ·refine zqc ?_
  exact CR (fin 5 resZ R.adm Z Z Z Z (by rw [judgeM, if_neg k1, if_neg k2, if_pos h3]))
 have k3 : ¬ R.knownB f = false := by rw [h3]; simp
 refine xdy ?_
 refine VG (VV (fun Fr w hF hs hS => head_spec Fr w (hS.blk 0 Z) (RwIn.slH memC_len (hS.at_ 1 Z)) ok.ch) Z ?_)
 refine xdy ?_
 refine VC.condN Z (fun h4 => ?_) (fun h4 => ?_)
 ·refine zqc ?_
  exact CR (fin 4 resZ R.adm Z Z Z Z (by rw [judgeM, if_neg k1, if_neg k2, if_neg k3, if_pos h4]))
 have k4 : ¬ R.headB = false := by rw [h4]; simp
 refine xdy ?_
 refine VC.condN Z (fun h5 => ?_) (fun h5 => ?_)
 ·refine zqc ?_
  exact CR (fin 8 resZ R.adm Z Z Z Z (by rw [judgeM, if_neg k1, if_neg k2, if_neg k3, if_neg k4, if_pos h5]))
 have k5 : ¬ R.whole = false := by rw [h5]; simp
 refine xdy ?_
 refine VG (VV (fun Fr w hF hs hS => drains_spec Fr w (hS.blk 0 Z)) Z ?_)
 refine xdy ?_
 refine CC Z (fun h6 => ?_) (fun h6 => CK ?_)
 ·refine zqc ?_
  exact CR (fin 3 resZ R.adm Z Z Z Z (by rw [judgeM, if_neg k1, if_neg k2, if_neg k3, if_neg k4, if_neg k5, if_pos h6]))
 have k6 : ¬ R.drainsB = true := by rw [h6]; simp
 refine CS (CD (ts 0 6 (.only 6 (ts 7 5 .nil))) ym yq ?_)
 refine xjl ?_
 refine VA.go (AR (fun Fr w hF hs hS => Lg.last_spec Fr w (hS.at_ 2 Z) f.client) Z Z yr ?_)
 refine xeh ?_
 refine xdx ?_
 have hi2 := ok.lasti f.client
 have hl1 := ok.last; have hl2 := ok.win.last1
 refine CS ?_
 refine VC.meetS (σ := Unit) (fun _ => [(0, pV p), (2, .int .i64 now), (4, pV fb), (6, .int .i64 0), (7, pV rb), (8, .int .i64 (lastR R.log f.client).1), (9, .int .i64 (lastR R.log f.client).2), (64, .bool ((f.seq == (lastR R.log f.client).1) && decide (R.win.done < (lastR R.log f.client).2)))])
  (fun _ => [pt p (repCs R x) repT, slH memT 2 x.a R.ch.ms.length x.c (flat memC R.ch.ms), logH x.lp R.log, winH x.wp R.win, admH x.ap R.adm, rdsH x.rp R.rds, pt rb (resC resZ) resT, pt fb (fmc (f, m)) frT]) (fun _ => True) ?_ ?_
 ·refine xjp ?_
  cases h7 : (f.seq == (lastR R.log f.client).1) with
  | false =>
   refine VG (VY 69 false Z h7 ?_)
   refine xel ?_
   exact xjq
  | true =>
   refine VG (VY 69 true Z h7 ?_)
   refine xel ?_
   refine xjj ?_
   refine xel ?_
   exact xjq
 rintro _ -
 refine CC Z (fun h7 => ?_) (fun h7 => ?_)
 ·have k7 : f.seq = (lastR R.log f.client).1 ∧ R.win.done < (lastR R.log f.client).2 := by simpa using h7
  refine zqc ?_
  exact CR (fin 6 resZ R.adm Z Z Z Z (by rw [judgeM, if_neg k1, if_neg k2, if_neg k3, if_neg k4, if_neg k5, if_neg k6, if_pos k7]))
 have k7 : ¬ (f.seq = (lastR R.log f.client).1 ∧ R.win.done < (lastR R.log f.client).2) := fun h => by rw [DT h.2, h.1] at h7; simp at h7
 refine xjp ?_
 refine CE Z (fun h8 => ?_) (fun h8 => ?_)
 ·refine xdy ?_
  refine VG (VV (fun Fr w hF hs hS => Lg.result_spec Fr w (hS.at_ 2 Z) (lastR R.log f.client).2 yd yd) Z ?_)
  refine xdy ?_
  refine VG (VT (vs := resC ((atI (logRun R.log).2 (lastR R.log f.client).2).getD resZ)) 6 Z Z Z Z (NR _) Z Z Z (VG (VN ?_)))
  refine xjm ?_
  refine VA.go (VA.ldA 6 (resC ((atI (logRun R.log).2 (lastR R.log f.client).2).getD resZ)) Z Z Z Z Z ?_)
  refine xeh ?_
  refine VA.go (AT (vs := resC ((atI (logRun R.log).2 (lastR R.log f.client).2).getD resZ)) 6 Z Z Z Z Z (NR _) Z Z Z yr ?_)
  refine xeh ?_
  exact CR (fin 0 ((atI (logRun R.log).2 (lastR R.log f.client).2).getD resZ) R.adm Z Z Z Z (by rw [judgeM, if_neg k1, if_neg k2, if_neg k3, if_neg k4, if_neg k5, if_neg k6, if_neg k7, if_pos h8]))
 refine xjp ?_
 refine CP Z (fun h9 => ?_) (fun h9 => ?_)
 ·refine zqc ?_
  exact CR (fin 7 resZ R.adm Z Z Z Z (by rw [judgeM, if_neg k1, if_neg k2, if_neg k3, if_neg k4, if_neg k5, if_neg k6, if_neg k7, if_neg h8, if_pos h9]))
 refine xdy ?_
 refine VG (VV (fun Fr w hF hs hS => Lg.len_spec Fr w (hS.at_ 2 Z)) Z ?_)
 refine xdy ?_
 refine CP Z (fun h10 => ?_) (fun h10 => CK ?_)
 ·refine zqc ?_
  exact CR (fin 1 resZ R.adm Z Z Z Z (by rw [judgeM, if_neg k1, if_neg k2, if_neg k3, if_neg k4, if_neg k5, if_neg k6, if_neg k7, if_neg h8, if_neg h9, if_pos yd]))
 refine CS (CD (ts 0 6 (.take 7 (.only 6 (.take 8 (.only 9 .nil))))) ym yq ?_)
 refine xjl ?_
 refine VA.go (VA.ldA 7 (fmc (f, m)) Z Z Z Z Z ?_)
 refine xeh ?_
 refine xjn ?_
 refine VA.go (AQ 4 Z (fun Fr w hF hs hS => offer_spec Fr w x.ap R.adm (f, m) (hmm.of hF hs) now) Z Z (ψ := fun v H => v = .int .i64 (R.adm.offerM f now).1 ∧ H = admH x.ap (R.adm.offerM f now).2) yz ?_ ?_)
 ·rintro _ _ ⟨rfl, rfl⟩
  exact yr
 rintro _ _ ⟨rfl, rfl⟩
 refine zpx ?_
 exact CR (fin (R.adm.offerM f now).1 resZ (R.adm.offerM f now).2 Z Z Z Z (by rw [judgeM, if_neg k1, if_neg k2, if_neg k3, if_neg k4, if_neg k5, if_neg k6, if_neg k7, if_neg h8, if_neg h9, if_neg yd]))
end
end Rep
namespace Rep
open Go Vg T Api Kv Ch Lg Rd Win Adm
attribute [local irreducible] VO VC VA
def updateR (R : RepM) (f : FrameM) (now : Int) : RepM × List SndM :=
 if (judgeM R f now).2.1.code ≠ 0 then ({ R with adm := (judgeM R f now).2.2 }, [(32 + f.client, replyF f.client f.seq f.try_ (judgeM R f now).2.1)])
 else if (judgeM R f now).1 = 0 then ({ R with adm := (judgeM R f now).2.2 }, [])
 else if (judgeM R f now).1 ≠ 6 ∧ (judgeM R f now).1 ≠ 10 then ({ R with adm := ((judgeM R f now).2.2.barM f.client f.seq f.try_).2 }, [(32 + f.client, refuseF R.ch.epoch f (judgeM R f now).1)])
 else ({ R with adm := (judgeM R f now).2.2 }, [(32 + f.client, refuseF R.ch.epoch f (judgeM R f now).1)])
section
variable {p : Nat} {R : RepM} {b : Nat} {S : List SndM}
theorem update_spec (ok : R.Ok) (hS : S.length ≤ 900000) (f : FrameM) (m : MemG) (hmm : MIn Fr w m) (now : Int) (hc0 : 0 ≤ f.client) (hc1 : f.client ≤ 1000) : Tri Tryz.prog 59 [.pointer (some ⟨p, 0, none⟩), .agg (fmc (f, m)).toArray, .int .i64 now, sendF b] Fr w [repH p R, outH b S]
  (fun v L => v = .tuple #[] ∧ L = [repH p (updateR R f now).1, outH b (S ++ (updateR R f now).2)]) := by
 refine TF 53 Tryz.func59 Z ym tabOk Z Z ?_
 refine CS (CG (VG (VB (vs := fmc (f, m)) Z fun fb => ?_)))
 refine xdy ?_
 refine VG (VL 0 (fmc (f, m)) Z Z Z Z ?_)
 refine VG (VQ 1 Z (fun Fr w hF hs hS => judge_spec Fr w ok f m (hmm.of hF hs) now) Z (ψ := fun v H => v = .tuple #[.int .i64 (judgeM R f now).1, .agg (resC (judgeM R f now).2.1).toArray] ∧ H = repH p { R with adm := (judgeM R f now).2.2 }) yz ?_)
 rintro _ _ ⟨rfl, rfl⟩
 refine VO.opn 1 Z (HOpn.rep p _) ?_
 rintro x -
 obtain ⟨⟨z, rr, A⟩, hj⟩ : ∃ j, judgeM R f now = j := ⟨_, rfl⟩
 rw [hj]
 have hu : updateR R f now = (if rr.code ≠ 0 then ({ R with adm := A }, [(32 + f.client, replyF f.client f.seq f.try_ rr)])
   else if z = 0 then ({ R with adm := A }, [])
   else if z ≠ 6 ∧ z ≠ 10 then ({ R with adm := (A.barM f.client f.seq f.try_).2 }, [(32 + f.client, refuseF R.ch.epoch f z)])
   else ({ R with adm := A }, [(32 + f.client, refuseF R.ch.epoch f z)])) := by rw [updateR, hj]
 show VO _ _ _ _ _ [pt p (repCs R x) repT, slH memT 2 x.a R.ch.ms.length x.c (flat memC R.ch.ms), logH x.lp R.log, winH x.wp R.win, admH x.ap A, rdsH x.rp R.rds, pt fb (fmc (f, m)) frT, outH b S] _
 refine xdy ?_
 refine VG (VO.alloc Z fun rb => ?_)
 refine xdy ?_
 refine VG (VT (vs := resC rr) 0 Z Z Z Z (NR _) Z Z Z ?_)
 refine xdy ?_
 refine VC.condNE Z (fun h1 => ?_) (fun h1 => CK ?_)
 ·refine xjp ?_
  refine VG (VL 0 (resC rr) Z Z Z Z ?_)
  refine VG (VQ 8 Z (fun Fr w hF hs _ => reply_spec Fr w yd f.client f.seq f.try_ hc0 yd rr) Z (ψ := fun v H => v = .tuple #[] ∧ H = outH b (S ++ [(32 + f.client, replyF f.client f.seq f.try_ rr)])) yz ?_)
  rintro _ _ ⟨rfl, rfl⟩
  refine xdy ?_
  exact CR (Ret.void Z (Imp.rep (R := { R with adm := A }) x (IP 1 Z (IP 1 Z (IP 1 Z (IP 1 Z (IP 1 Z (IP 1 Z (IP 2 Z Imp.nil)))))))).ent ⟨rfl, by rw [hu, if_pos h1]⟩)
 refine xdy ?_
 refine CE Z (fun h2 => ?_) (fun h2 => CK ?_)
 ·exact CR (Ret.void Z (Imp.rep (R := { R with adm := A }) x (IP 1 Z (IP 1 Z (IP 1 Z (IP 1 Z (IP 1 Z (IP 1 Z (IP 2 Z Imp.nil)))))))).ent ⟨rfl, by rw [hu, if_neg (fun h => h h1), if_pos h2, List.append_nil]⟩)
 refine CS ?_
 refine VC.meetS (σ := AdmM) (fun _ => [(0, pV p), (3, sendF b), (5, pV fb), (8, .int .i64 z)])
  (fun A' => [pt p (repCs R x) repT, slH memT 2 x.a R.ch.ms.length x.c (flat memC R.ch.ms), logH x.lp R.log, winH x.wp R.win, admH x.ap A', rdsH x.rp R.rds, pt fb (fmc (f, m)) frT, outH b S]) (fun A' => A' = if z ≠ 6 ∧ z ≠ 10 then (A.barM f.client f.seq f.try_).2 else A) ?_ ?_
 ·refine xdy ?_
  by_cases h3 : z = 6
  ·refine VG (VY 33 false Z (by simp [h3]) ?_)
   refine zpn ?_
   exact ⟨A, by rw [if_neg (fun h => h.1 h3)], sbZ, (pkZ [1, 1, 1, 1, 1, 1, 1, 1]).ent⟩
  ·refine VG (VY 33 true Z (by simp [h3]) ?_)
   refine xel ?_
   refine VC.condNE Z (fun h4 => ?_) (fun h4 => CK ?_)
   ·refine xjr ?_
    refine xjl ?_
    refine VA.go (AQ 5 Z (fun Fr w hF hs hS => bar_spec Fr w x.ap A f.client f.seq f.try_) Z Z (ψ := fun v H => v = .int .i64 (A.barM f.client f.seq f.try_).1 ∧ H = admH x.ap (A.barM f.client f.seq f.try_).2) yz ?_ ?_)
    ·rintro _ _ ⟨rfl, rfl⟩
     exact yr
    rintro _ _ ⟨rfl, rfl⟩
    refine xeh ?_
    exact ⟨(A.barM f.client f.seq f.try_).2, by rw [if_pos ⟨h3, h4⟩], sbZ, (pkZ [1, 1, 1, 1, 1, 1, 1, 1]).ent⟩
   ·exact ⟨A, by rw [if_neg (fun h => h.2 h4)], sbZ, (pkZ [1, 1, 1, 1, 1, 1, 1, 1]).ent⟩
 rintro A' hA'
 refine xdy ?_
 refine VG (VL 6 (fmc (f, m)) Z Z Z Z ?_)
 refine xdy ?_
 refine VG (VQ 7 Z (fun Fr w hF hs hS => refuse_spec Fr w (hS.blk 0 Z) yd f m hc0 yd z) Z (ψ := fun v H => v = .tuple #[] ∧ H = outH b (S ++ [(32 + f.client, refuseF R.ch.epoch f z)])) yz ?_)
 rintro _ _ ⟨rfl, rfl⟩
 refine xdy ?_
 exact Ret.void Z (Imp.rep (R := { R with adm := A' }) x (IP 0 Z (IP 0 Z (IP 0 Z (IP 0 Z (IP 0 Z (IP 0 Z (IP 1 Z Imp.nil)))))))).ent ⟨rfl, by
  rw [hu, if_neg (fun h => h h1), if_neg h2, hA']
  split <;> rfl⟩
def readReason (R : RepM) (f : FrameM) (now : Int) : Int :=
 if R.knownB f = false then 5 else if R.tailB = false then 4 else if R.whole = false then 8 else if f.deadline < now then 2 else if R.most ≤ R.rds.l.length then 1 else 0
def confirmF (epoch id : Int) : FrameM := { FrameM.zero with kind := 9, epoch := epoch, index := id }
def readR (R : RepM) (f : FrameM) (now : Int) : RepM × List SndM :=
 if readReason R f now ≠ 0 then (R, [(32 + f.client, refuseF R.ch.epoch f (readReason R f now))])
 else ({ R with rds := R.rds.put f (kvLook (logRun R.log).1 f.op.key R.log.length) }, [(16, confirmF R.ch.epoch (R.rds.last + 1))])
theorem read_spec (ok : R.Ok) (hmost : R.most = R.rds.cap) (hS : S.length ≤ 900000) (f : FrameM) {ma : Option Addr} {mc : Nat} {ms : List MemM} (hm : RwIn memC 2 Fr w ma ms) (hml : ms.length ≤ 1000000) (now : Int) (hc0 : 0 ≤ f.client) (hc1 : f.client ≤ 1000) : Tri Tryz.prog 58 [.pointer (some ⟨p, 0, none⟩), .agg (fgC f (ma, ms.length, mc)).toArray, .int .i64 now, sendF b] Fr w [repH p R, outH b S]
  (fun v L => v = .tuple #[] ∧ L = [repH p (readR R f now).1, outH b (S ++ (readR R f now).2)]) := by
 refine TF 75 Tryz.func58 Z ym tabOk Z Z ?_
 refine CS (CG (VG (VB (vs := fgC f (ma, ms.length, mc)) Z fun fb => VG (VN ?_))))
 refine xjs ?_
 rintro x -
 show VC _ _ _ [pt p (repCs R x) repT, slH memT 2 x.a R.ch.ms.length x.c (flat memC R.ch.ms), logH x.lp R.log, winH x.wp R.win, admH x.ap R.adm, rdsH x.rp R.rds, pt fb (fgC f (ma, ms.length, mc)) frT, outH b S] _
 have hlen : R.rds.l.length ≤ 16 := by have := ok.rl; have := ok.rc1; omega
 refine CS (CG (VG (VN (CS ?_))))
 have S4 : ∀ {E : Env} {z : Int}, Vg.look E 8 = some (.int .i64 z) → z = readReason R f now → Vg.look E 0 = some (.pointer (some ⟨p, 0, none⟩)) → Vg.look E 3 = some (sendF b) → Vg.look E 5 = some (.pointer (some ⟨fb, 0, none⟩)) → Sub [(0, pV p), (3, sendF b), (5, pV fb), (8, .int .i64 (readReason R f now))] E := fun h0 h1 h2 h3 h4 => SC h2 (SC h3 (SC h4 (Sub.int h0 h1 (SN _))))
 refine VC.meetS (σ := Unit) (fun _ => [(0, pV p), (3, sendF b), (5, pV fb), (8, .int .i64 (readReason R f now))])
  (fun _ => [pt p (repCs R x) repT, slH memT 2 x.a R.ch.ms.length x.c (flat memC R.ch.ms), logH x.lp R.log, winH x.wp R.win, admH x.ap R.adm, rdsH x.rp R.rds, pt fb (fgC f (ma, ms.length, mc)) frT, outH b S]) (fun _ => True) ?_ ?_
 ·refine xjt ?_
  refine xdy ?_
  refine VG (VL 6 (fgC f (ma, ms.length, mc)) Z Z Z Z ?_)
  refine xju ?_
  refine xdy ?_
  refine VC.condN Z (fun h1 => ?_) (fun h1 => ?_)
  ·refine xdy ?_
   exact ⟨(), trivial, S4 Z (by rw [readReason, if_pos h1]) Z Z Z, ER⟩
  have k1 : ¬ R.knownB f = false := by rw [h1]; simp
  refine xdy ?_
  refine xji ?_
  refine xdy ?_
  refine VC.condN Z (fun h2 => ?_) (fun h2 => ?_)
  ·refine xdy ?_
   exact ⟨(), trivial, S4 Z (by rw [readReason, if_neg k1, if_pos h2]) Z Z Z, ER⟩
  have k2 : ¬ R.tailB = false := by rw [h2]; simp
  refine xdy ?_
  refine VC.condN Z (fun h3 => ?_) (fun h3 => ?_)
  ·refine xdy ?_
   exact ⟨(), trivial, S4 Z (by rw [readReason, if_neg k1, if_neg k2, if_pos h3]) Z Z Z, ER⟩
  have k3 : ¬ R.whole = false := by rw [h3]; simp
  refine xjv ?_
  refine CP Z (fun h4 => ?_) (fun h4 => ?_)
  ·refine xdy ?_
   exact ⟨(), trivial, S4 Z (by rw [readReason, if_neg k1, if_neg k2, if_neg k3, if_pos h4]) Z Z Z, ER⟩
  refine CS (CD (ts 0 4 (ts 5 4 (.only 4 (ts 9 2 .nil)))) ym yq ?_)
  refine xjw ?_
  refine VA.go (AR (fun Fr w hF hs hS => Rd.len_spec Fr w (hS.at_ 5 Z) ok.rc0) Z Z yr ?_)
  refine xeh ?_
  refine CP Z (fun h5 => ?_) (fun h5 => CK ?_)
  ·refine xdy ?_
   exact ⟨(), trivial, S4 Z (by rw [readReason, if_neg k1, if_neg k2, if_neg k3, if_neg h4, if_pos h5]) Z Z Z, ER⟩
  ·exact ⟨(), trivial, S4 Z (by rw [readReason, if_neg k1, if_neg k2, if_neg k3, if_neg h4, if_neg h5]) Z Z Z, ER⟩
 rintro _ -
 refine xdy ?_
 refine VC.condNE Z (fun hr => ?_) (fun hr => CK ?_)
 ·refine xdy ?_
  refine VG (VL 6 (fgC f (ma, ms.length, mc)) Z Z Z Z ?_)
  refine xdy ?_
  refine VG (VQ 7 Z (fun Fr w hF hs hS => refuse_spec Fr w (hS.blk 0 Z) yd f (ma, ms.length, mc) hc0 yd (readReason R f now)) Z (ψ := fun v H => v = .tuple #[] ∧ H = outH b (S ++ [(32 + f.client, refuseF R.ch.epoch f (readReason R f now))])) yz ?_)
  rintro _ _ ⟨rfl, rfl⟩
  refine xdy ?_
  exact CR (Ret.void Z (Imp.rep x (IP 0 Z (IP 0 Z (IP 0 Z (IP 0 Z (IP 0 Z (IP 0 Z (IP 1 Z Imp.nil)))))))).ent ⟨rfl, by rw [readR, if_pos hr]⟩)
 have hnf : (R.rds.l.length : Int) < R.rds.cap := by
  rw [← hmost]
  unfold readReason at hr
  split at hr
  ·cases hr
  split at hr
  ·cases hr
  split at hr
  ·cases hr
  split at hr
  ·cases hr
  split at hr
  ·cases hr
  ·omega
 refine CS (CD (ts 0 12 (.only 12 (.only 13 (ts 14 5 .nil)))) ym yq ?_)
 refine xjw ?_
 refine VA.go (VA.ldA 6 (fgC f (ma, ms.length, mc)) Z Z Z Z Z ?_)
 refine xjw ?_
 refine VA.go (AR (fun Fr w hF hs hS => Lg.look_spec Fr w (hS.at_ 2 Z) f.op.key) Z Z yr ?_)
 refine VA.go (AQ 5 Z (fun Fr w hF hs hS => Rd.put_spec Fr w x.rp R.rds ok.rc0 ok.rc1 ok.rn0 (by have := ok.rn1; omega) f (hm.of hF hs) hml (kvLook (logRun R.log).1 f.op.key R.log.length)) Z Z (ψ := fun v H => v = .tuple #[.int .i64 (R.rds.last + 1), .int .i64 0] ∧ H = rdsH x.rp (R.rds.put f (kvLook (logRun R.log).1 f.op.key R.log.length))) (fun v L h => ⟨_, h.2, by rw [h.1, if_pos hnf], Z⟩) ?_ ?_)
 ·rintro _ _ ⟨rfl, rfl⟩
  exact yr
 rintro _ _ ⟨rfl, rfl⟩
 refine zrb ?_
 refine VG (VI (LB (pv := [(0, .int .i64 9), (1, .int .i64 R.ch.epoch), (12, .int .i64 (R.rds.last + 1))]) (fgC (confirmF R.ch.epoch (R.rds.last + 1)) mem0) Z Z Z ym Z) ?_)
 refine VG (VO.callFAt 7 Z Z (fun Fr w hF hs _ => add_spec Fr w b S yd 16 (confirmF R.ch.epoch (R.rds.last + 1))) Z (ψ := fun v H => v = .tuple #[] ∧ H = outH b (S ++ [(16, confirmF R.ch.epoch (R.rds.last + 1))])) yz ?_)
 rintro _ _ ⟨rfl, rfl⟩
 refine xdy ?_
 exact Ret.void Z (Imp.rep (R := { R with rds := R.rds.put f (kvLook (logRun R.log).1 f.op.key R.log.length) }) x (IP 0 Z (IP 0 Z (IP 0 Z (IP 0 Z (IP 0 Z (IP 0 Z (IP 1 Z Imp.nil)))))))).ent ⟨rfl, by rw [readR, if_neg (fun h => h hr)]⟩
end
end Rep
namespace Rep
open Go Vg T Api Kv Ch Lg Rd Win Adm
attribute [local irreducible] VO VC VA
theorem ack_ok {W : WinM} (h : W.Ok) (i : Int) : (W.ack i).Ok := by
 unfold WinM.ack
 split
 ·rename_i hb
  simp only [WinM.ackB, Bool.and_eq_true, decide_eq_true_eq] at hb
  have := h.done0
  exact ⟨h.cap0, h.cap1, by show 0 ≤ i; omega, hb.2, h.last1, h.sent0, h.sent1, h.lim0, h.lim1⟩
 ·exact h
theorem ack_last (W : WinM) (i : Int) : (W.ack i).last = W.last := by unfold WinM.ack; split <;> rfl
theorem finishR_ok {R : RepM} (h : R.Ok) : R.finishR.Ok := by
 unfold RepM.finishR
 split
 ·exact ⟨h.ch, ack_ok h.win _, by rw [ack_last]; exact h.last, h.logc, h.logi, h.rc0, h.rc1, h.rl, h.rn0, h.rn1, h.rcl, h.calls, h.wf⟩
 ·exact h
theorem becomeR_ok {R : RepM} (h : R.Ok) : R.becomeR.Ok := by
 unfold RepM.becomeR
 split
 ·exact xjx
 ·exact h
def pushE (R : RepM) (e : EntryM) : RepM := { R with log := R.log ++ [e], win := { R.win with last := R.win.last + 1 } }
theorem logErr_ok {es : List EntryM} {e : EntryM} (h : logErr es e = 0) : badE e = false ∧ es.length < 4096 ∧ e.index = es.length + 1 ∧ (lastOf es e.client).1 < e.seq := by
 unfold logErr at h
 split at h
 ·cases h
 rename_i h1
 split at h
 ·cases h
 rename_i h2
 split at h
 ·cases h
 rename_i h3
 split at h
 ·cases h
 rename_i h4
 exact ⟨by simpa using h1, by omega, by omega, by omega⟩
theorem bad_client {e : EntryM} (h : badE e = false) : 0 ≤ e.client ∧ e.client < 6 ∧ 1 ≤ e.seq := by
 simp only [badE, Bool.or_eq_false_iff, decide_eq_false_iff_not] at h
 omega
theorem pushE_ok {R : RepM} (h : R.Ok) {e : EntryM} (he : logErr R.log e = 0) (hr : R.win.room = true) : (pushE R e).Ok := by
 obtain ⟨b1, b2, b3, b4⟩ := logErr_ok he
 have hc := bad_client b1
 simp only [WinM.room, Bool.and_eq_true, decide_eq_true_eq] at hr
 have hw := h.win
 have hl := h.last
 refine ⟨h.ch, ⟨hw.cap0, hw.cap1, hw.done0, ?_, ?_, hw.sent0, ?_, hw.lim0, hw.lim1⟩, ?_, ?_, ?_, h.rc0, h.rc1, h.rl, h.rn0, h.rn1, h.rcl, h.calls, h.wf⟩
 ·have := hw.done1; show R.win.done ≤ R.win.last + 1; omega
 ·show R.win.last + 1 ≤ 4096; omega
 ·have := hw.sent1; show R.win.sent ≤ R.win.last + 1; omega
 ·show R.win.last + 1 = (R.log ++ [e]).length; rw [List.length_append, hl]; simp
 ·intro y hy
  rcases List.mem_append.1 hy with hy | hy
  ·exact h.logc y hy
  ·obtain rfl := List.mem_singleton.1 hy; exact ⟨hc.1, hc.2.1⟩
 ·intro y hy
  show _ ∧ y.index ≤ (R.log ++ [e]).length
  rw [List.length_append]
  rcases List.mem_append.1 hy with hy | hy
  ·have := h.logi y hy; exact ⟨this.1, by simp; omega⟩
  ·obtain rfl := List.mem_singleton.1 hy; exact ⟨by omega, by simp; omega⟩
theorem repl_len (R : RepM) (k : Nat) : (replies R k).length = k := by simp [replies]
theorem finishM_len {R : RepM} (h : R.Ok) : R.finishM.length ≤ 4096 := by
 unfold RepM.finishM
 split
 ·rw [repl_len]; have := h.win.last1; have := h.win.done0; omega
 ·simp
theorem baseM_len (R : RepM) : R.baseM.length ≤ 1 := by unfold RepM.baseM; split <;> simp
theorem becomeM_len (R : RepM) : R.becomeM.length ≤ 1 := by
 unfold RepM.becomeM
 split
 ·exact baseM_len _
 ·simp
theorem greetM_len (R : RepM) : R.greetM.length ≤ 1 := by unfold RepM.greetM; split <;> simp
def fwdB (R : RepM) (e : EntryM) : Bool := (e.index == R.win.last + 1) && decide (0 < max (min (R.win.done + R.win.cap) 4096 - R.win.last) 0)
theorem fwd_room {R : RepM} {e : EntryM} (h : fwdB R e = true) : R.win.room = true := by
 simp only [fwdB, Bool.and_eq_true, decide_eq_true_eq] at h
 simp only [WinM.room, Bool.and_eq_true, decide_eq_true_eq]
 omega
def forwardR (R : RepM) (e : EntryM) : RepM × List SndM :=
 if fwdB R e = true ∧ logErr R.log e = 0 then ((pushE R e).finishR.becomeR, (pushE R e).finishM ++ (pushE R e).finishR.becomeM ++ (pushE R e).finishR.becomeR.greetM)
 else (R, R.greetM)
section
variable {p : Nat} {R : RepM} {b : Nat} {S : List SndM}
theorem forward_spec (ok : R.Ok) (hS : S.length ≤ 800000) (e : EntryM) (hi1 : -9223372036854775808 ≤ e.index) (hi2 : e.index ≤ 9223372036854775807) : Tri Tryz.prog 65 [.pointer (some ⟨p, 0, none⟩), .agg (entC e).toArray, sendF b] Fr w [repH p R, outH b S]
  (fun v L => v = .tuple #[] ∧ L = [repH p (forwardR R e).1, outH b (S ++ (forwardR R e).2)]) := by
 have w0 := ok.win.cap0
 have w1 := ok.win.last1; have w2 := ok.win.done0; have w3 := ok.win.done1
 refine TF 50 Tryz.func65 Z ym tabOk Z Z ?_
 refine CS (CG (VG (VB (vs := entC e) Z fun eb => VG (VN ?_))))
 refine CS ?_
 refine VC.meetS (σ := RepM × List SndM) (fun _ => [(0, pV p), (2, sendF b)]) (fun y => [repH p y.1, outH b (S ++ y.2)]) (fun y => y.1.Ok ∧ y.2.length ≤ 10000 ∧ forwardR R e = (y.1, y.2 ++ y.1.greetM)) ?_ ?_
 ·refine xjs ?_
  rintro x -
  show VC _ _ _ [pt p (repCs R x) repT, slH memT 2 x.a R.ch.ms.length x.c (flat memC R.ch.ms), logH x.lp R.log, winH x.wp R.win, admH x.ap R.adm, rdsH x.rp R.rds, pt eb (entC e) entT, outH b S] _
  have shut : ∀ {X : Cx} {T : List SndM}, Ent X [pt p (repCs R x) repT, slH memT 2 x.a R.ch.ms.length x.c (flat memC R.ch.ms), logH x.lp R.log, winH x.wp R.win, admH x.ap R.adm, rdsH x.rp R.rds, pt eb (entC e) entT, outH b T] [repH p R, outH b T] :=
   (Imp.rep x (pkZ [0, 0, 0, 0, 0, 0, 1])).ent
  have none_ : ¬ (fwdB R e = true ∧ logErr R.log e = 0) → R.Ok ∧ ([] : List SndM).length ≤ 10000 ∧ forwardR R e = (R, [] ++ R.greetM) := fun h => ⟨ok, by simp, by rw [forwardR, if_neg h]; rfl⟩
  refine CS (CD (ts 0 6 (.only 6 (ts 7 7 (.only 14 (ts 15 2 .nil))))) ym yq ?_)
  refine xjw ?_
  refine VA.go (AR (fun Fr w hF hs hS => Win.last_spec Fr w (hS.blk 3 Z) w0) Z Z yr ?_)
  refine xeg ?_
  refine xeh ?_
  cases h1 : (e.index == R.win.last + 1) with
  | false =>
   refine VA.go (AY 17 false Z h1 ?_)
   refine xeq ?_
   refine zql ?_
   refine xed ?_
   exact ⟨(R, []), none_ (fun h => by rw [fwdB, h1] at h; exact absurd h.1 ya), sbZ, by dsimp only; rw [List.append_nil]; exact shut⟩
  | true =>
  refine VA.go (AY 17 true Z h1 ?_)
  (repeat (first|refine yG (yN ?_)|refine yG (yD 0 rfl rfl rfl rfl rfl ?_)|refine yG (yD 1 rfl rfl rfl rfl rfl ?_)|refine yG (yD 2 rfl rfl rfl rfl rfl ?_)|refine yG (yD 3 rfl rfl rfl rfl rfl ?_)|refine yG (yD 4 rfl rfl rfl rfl rfl ?_)|refine yG (yD 5 rfl rfl rfl rfl rfl ?_)|refine yG (yD 6 rfl rfl rfl rfl rfl ?_)|refine yG (yU rfl rfl rfl rfl ?_)))
  refine VA.go (AR (fun Fr w hF hs hS => Win.free_spec Fr w (hS.blk 3 Z) ok.win) Z Z yr ?_)
  refine xeq ?_
  refine CP Z (fun h2 => ?_) (fun h2 => CK ?_)
  rotate_left
  ·exact ⟨(R, []), none_ (fun h => by rw [fwdB, h1, DF h2] at h; exact absurd h.1 ya), sbZ, by dsimp only; rw [List.append_nil]; exact shut⟩
  have hfb : fwdB R e = true := by rw [fwdB, h1, DT h2]; rfl
  refine CS ?_
  refine VC.meetS (σ := Nat) (fun rb => [(0, pV p), (2, sendF b), (7, .int .i64 (logErr R.log e))]) (fun rb => [pt rb (resC (logRes R.log e)) resT, pt p (repCs R x) repT, slH memT 2 x.a R.ch.ms.length x.c (flat memC R.ch.ms), logH x.lp (logApp R.log e), winH x.wp R.win, admH x.ap R.adm, rdsH x.rp R.rds, pt eb (entC e) entT, outH b S]) (fun _ => True) ?_ ?_
  ·refine xjy ?_
   refine xjw ?_
   refine VA.go (VA.ldA 6 (entC e) Z Z Z Z Z ?_)
   refine VA.go (VA.two Z Z Z Z Z (OpT.callAt (ψ := fun v H => v = .tuple #[.agg (resC (logRes R.log e)).toArray, .int .i64 (logErr R.log e)] ∧ H = logH x.lp (logApp R.log e)) 2 Z (fun Fr w hF hs hS => Lg.append_spec Fr w x.lp R.log e) Z yz) Z Z Z (OpT.alloc Z) ?_ ?_ ?_ ?_)
   ·rintro _ _ ⟨_, ⟨rfl, rfl⟩, rfl⟩
    exact yr
   ·rintro _ _ ⟨rb, rfl, rfl⟩
    exact yr
   ·rintro _ _ ⟨_, ⟨rfl, rfl⟩, rfl⟩
    refine xeh ?_
    refine VA.go (AO (OpT.alloc Z) Z ?_ ?_)
    ·rintro _ _ ⟨rb, rfl, rfl⟩
     exact yr
    rintro _ _ ⟨rb, rfl, rfl⟩
    refine xjz ?_
    exact zqp
   ·rintro _ _ ⟨rb, rfl, rfl⟩
    refine VA.go (AO (OpT.callAt (ψ := fun v H => v = .tuple #[.agg (resC (logRes R.log e)).toArray, .int .i64 (logErr R.log e)] ∧ H = logH x.lp (logApp R.log e)) 3 Z (fun Fr w hF hs hS => Lg.append_spec Fr w x.lp R.log e) Z yz) Z ?_ ?_)
    ·rintro _ _ ⟨_, ⟨rfl, rfl⟩, rfl⟩
     exact yr
    rintro _ _ ⟨_, ⟨rfl, rfl⟩, rfl⟩
    refine xeh ?_
    refine xjz ?_
    exact zqp
  rintro rb -
  refine xdy ?_
  refine CE Z (fun h3 => ?_) (fun h3 => CK ?_)
  rotate_left
  ·have hla : logApp R.log e = R.log := by rw [logApp, if_neg h3]
   rw [hla]
   exact ⟨(R, []), none_ (fun h => h3 h.2), sbZ, by
    dsimp only; rw [List.append_nil]
    exact (Imp.rep x (pkZ [1, 1, 1, 1, 1, 1, 2])).ent⟩
  have hla : logApp R.log e = R.log ++ [e] := by rw [logApp, if_pos h3]
  have hroom := fwd_room hfb
  have okp := pushE_ok ok h3 hroom
  rw [hla]
  refine xgb ?_
  refine VG (VQ 4 Z (fun Fr w hF hs hS => Win.push_spec Fr w ok.win hroom) Z (ψ := fun v H => v = .bool true ∧ H = winH x.wp { R.win with last := R.win.last + 1 }) yz ?_)
  rintro _ _ ⟨rfl, rfl⟩
  refine VO.ent (L' := [repH p (pushE R e), outH b S]) (Imp.rep (R := pushE R e) x (pkZ [1, 1, 1, 1, 1, 1, 2])).ent ?_
  refine xdy ?_
  refine VG (VK (Lc := [repH p (pushE R e), outH b S]) (Lr := []) (fun Fr w hF hs hS => finish_spec Fr w okp yd) Z Z ?_)
  rintro _ _ ⟨rfl, rfl⟩
  have fl := finishM_len okp
  refine xdy ?_
  refine VG (VK (Lc := [repH p (pushE R e).finishR, outH b (S ++ (pushE R e).finishM)]) (Lr := []) (fun Fr w hF hs hS => become_spec Fr w (finishR_ok okp) ybf) Z Z ?_)
  rintro _ _ ⟨rfl, rfl⟩
  have bl := becomeM_len (pushE R e).finishR
  refine xdy ?_
  refine ⟨((pushE R e).finishR.becomeR, (pushE R e).finishM ++ (pushE R e).finishR.becomeM), ⟨becomeR_ok (finishR_ok okp), by dsimp only; rw [List.length_append]; omega, by rw [forwardR, if_pos ⟨hfb, h3⟩]⟩, sbZ, ?_⟩
  dsimp only
  rw [List.append_assoc]
  exact ER
 rintro ⟨R', T⟩ ⟨ok', hT, hf⟩
 dsimp only at ok' hT hf ⊢
 refine VC.opn 0 Z (HOpn.rep p R') ?_
 rintro x -
 show VC _ _ _ (repO p R' x b (S ++ T)) _
 unfold repO
 refine xdy ?_
 refine VG (VQ 6 Z (fun Fr w hF hs hS => greet_spec Fr w (RepIn.pcs hS 0 Z Z Z Z Z Z) ok'.ch ok'.win ybf) Z (ψ := fun v H => v = .tuple #[] ∧ H = outH b (S ++ T ++ R'.greetM)) yz ?_)
 rintro _ _ ⟨rfl, rfl⟩
 refine xdy ?_
 exact Ret.void Z (repO_shut (R := R') (x := x)).ent ⟨rfl, by rw [hf, List.append_assoc]⟩
end
end Rep
namespace Rep
open Go Vg T Api Kv Ch Lg Rd Win Adm
attribute [local irreducible] VO VC VA
def ack1 (R : RepM) (f : FrameM) : RepM := if R.linked then { R with have_ := max R.have_ f.have_ } else { R with linked := true, have_ := f.have_, win := { R.win with sent := min (max f.have_ 0) R.win.last } }
def ack2 (R : RepM) (f : FrameM) : RepM := { ack1 R f with win := { (ack1 R f).win with limit := max (ack1 R f).win.limit (min f.grant 4112) } }
def ackR (R : RepM) (f : FrameM) : RepM × List SndM :=
 ({ ack2 R f with win := (ack2 R f).win.ack f.index }, if (ack2 R f).win.ackB f.index then RepM.greetM { ack2 R f with win := (ack2 R f).win.ack f.index } else [])
theorem ack1_ok {R : RepM} (h : R.Ok) (f : FrameM) : (ack1 R f).Ok := by
 unfold ack1
 split
 ·exact xjx
 ·have hw := h.win
  refine ⟨h.ch, ⟨hw.cap0, hw.cap1, hw.done0, hw.done1, hw.last1, ?_, ?_, hw.lim0, hw.lim1⟩, h.last, h.logc, h.logi, h.rc0, h.rc1, h.rl, h.rn0, h.rn1, h.rcl, h.calls, h.wf⟩
  ·show 0 ≤ min (max f.have_ 0) R.win.last
   have := hw.done0; have := hw.done1; omega
  ·show min (max f.have_ 0) R.win.last ≤ R.win.last; omega
theorem ack2_ok {R : RepM} (h : R.Ok) (f : FrameM) : (ack2 R f).Ok := by
 have h1 := ack1_ok h f
 have hw := h1.win
 unfold ack2
 refine ⟨h1.ch, ⟨hw.cap0, hw.cap1, hw.done0, hw.done1, hw.last1, hw.sent0, hw.sent1, ?_, ?_⟩, h1.last, h1.logc, h1.logi, h1.rc0, h1.rc1, h1.rl, h1.rn0, h1.rn1, h1.rcl, h1.calls, h1.wf⟩
 ·show 0 ≤ max (ack1 R f).win.limit (min f.grant 4112); have := hw.lim0; omega
 ·show max (ack1 R f).win.limit (min f.grant 4112) ≤ 4112; have := hw.lim1; omega
theorem ackR_ok {R : RepM} (h : R.Ok) (f : FrameM) : (ackR R f).1.Ok := by
 have h2 := ack2_ok h f
 exact ⟨h2.ch, ack_ok h2.win _, by show ((ack2 R f).win.ack f.index).last = _; rw [ack_last]; exact h2.last, h2.logc, h2.logi, h2.rc0, h2.rc1, h2.rl, h2.rn0, h2.rn1, h2.rcl, h2.calls, h2.wf⟩
section
variable {p : Nat} {R : RepM} {b : Nat} {S : List SndM}
theorem ack_spec (ok : R.Ok) (hS : S.length ≤ 800000) (f : FrameM) (m : MemG) : Tri Tryz.prog 67 [.pointer (some ⟨p, 0, none⟩), .agg (fgC f m).toArray, sendF b] Fr w [repH p R, outH b S]
  (fun v L => v = .tuple #[] ∧ L = [repH p (ackR R f).1, outH b (S ++ (ackR R f).2)]) := by
 have ok1 := ack1_ok ok f
 have ok2 := ack2_ok ok f
 refine TF 52 Tryz.func67 Z ym tabOk Z Z ?_
 refine CS (CG (VG (VB (vs := fgC f m) Z fun fb => VG (VN ?_))))
 refine xjs ?_
 rintro x -
 show VC _ _ _ [pt p (repCs R x) repT, slH memT 2 x.a R.ch.ms.length x.c (flat memC R.ch.ms), logH x.lp R.log, winH x.wp R.win, admH x.ap R.adm, rdsH x.rp R.rds, pt fb (fgC f m) frT, outH b S] _
 refine CS ?_
 refine VC.meetS (σ := Unit) (fun _ => [(0, pV p), (2, sendF b), (4, pV fb)]) (fun _ => [pt p (repCs (ack1 R f) x) repT, slH memT 2 x.a R.ch.ms.length x.c (flat memC R.ch.ms), logH x.lp R.log, winH x.wp (ack1 R f).win, admH x.ap R.adm, rdsH x.rp R.rds, pt fb (fgC f m) frT, outH b S]) (fun _ => True) ?_ ?_
 ·refine xdy ?_
  cases hl : R.linked with
  | true =>
   have e : ack1 R f = { R with have_ := max R.have_ f.have_ } := by rw [ack1, hl]; rfl
   refine xem ?_
   refine xjr ?_
   refine xjw ?_
   refine VA.go (VA.st 0 (cs' := repCs { R with have_ := if R.have_ < f.have_ then f.have_ else R.have_ } x) Z Z Z Z Z (Nat.le_of_ble_eq_true Z) Z Z yr ?_)
   refine xeh ?_
   exact ⟨(), trivial, sbZ, by rw [e, show max R.have_ f.have_ = (if R.have_ < f.have_ then f.have_ else R.have_) by split <;> omega]; exact ER⟩
  | false =>
   have e : ack1 R f = { R with linked := true, have_ := f.have_, win := { R.win with sent := min (max f.have_ 0) R.win.last } } := by rw [ack1, hl]; rfl
   refine xdz ?_
   refine CS (CD (ts 0 6 (.only 6 (ts 7 2 (.only 9 .nil)))) ym yq ?_)
   refine xjw ?_
   refine VA.go (VA.st 0 (cs' := repCs { R with linked := true } x) Z Z Z Z Z (Nat.le_of_ble_eq_true Z) Z Z yr ?_)
   refine xjw ?_
   refine VA.go (VA.st 0 (cs' := repCs { R with linked := true, have_ := f.have_ } x) Z Z Z Z Z (Nat.le_of_ble_eq_true Z) Z Z yr ?_)
   refine xeh ?_
   refine CD (ts 0 6 (.only 6 .nil)) ym yq ?_
   refine xjw ?_
   refine VA.go (AQ 3 Z (fun Fr w hF hs hS => Win.back_spec Fr w ok.win f.have_) Z Z (ψ := fun v H => v = .tuple #[] ∧ H = winH x.wp { R.win with sent := min (max f.have_ 0) R.win.last }) yz ?_ ?_)
   ·rintro _ _ ⟨rfl, rfl⟩
    exact yr
   rintro _ _ ⟨rfl, rfl⟩
   refine xeh ?_
   exact ⟨(), trivial, sbZ, by rw [e]; exact ER⟩
 rintro _ -
 have e1 : (ack1 R f).ch = R.ch ∧ (ack1 R f).log = R.log ∧ (ack1 R f).adm = R.adm ∧ (ack1 R f).rds = R.rds := by unfold ack1; split <;> exact ⟨rfl, rfl, rfl, rfl⟩
 refine xff ?_
 refine xjw ?_
 refine VA.go (AQ 3 Z (fun Fr w hF hs hS => Win.grant_spec Fr w ok1.win f.grant) Z Z (ψ := fun v H => v = .tuple #[] ∧ H = winH x.wp (ack2 R f).win) yz ?_ ?_)
 ·rintro _ _ ⟨rfl, rfl⟩
  exact yr
 rintro _ _ ⟨rfl, rfl⟩
 refine xeh ?_
 refine xff ?_
 refine xjw ?_
 refine VA.go (AQ 3 Z (fun Fr w hF hs hS => Win.ack_spec Fr w ok2.win f.index) Z Z (ψ := fun v H => v = .bool ((ack2 R f).win.ackB f.index) ∧ H = winH x.wp ((ack2 R f).win.ack f.index)) yz ?_ ?_)
 ·rintro _ _ ⟨rfl, rfl⟩
  exact yr
 rintro _ _ ⟨rfl, rfl⟩
 refine xeh ?_
 have oka := ackR_ok ok f
 have hrep : repL p (ackR R f).1 x = [pt p (repCs (ack1 R f) x) repT, slH memT 2 x.a R.ch.ms.length x.c (flat memC R.ch.ms), logH x.lp R.log, winH x.wp ((ack2 R f).win.ack f.index), admH x.ap R.adm, rdsH x.rp R.rds] := by
  show [pt p (repCs (ack1 R f) x) repT, slH memT 2 x.a (ack1 R f).ch.ms.length x.c (flat memC (ack1 R f).ch.ms), logH x.lp (ack1 R f).log, _, admH x.ap (ack1 R f).adm, rdsH x.rp (ack1 R f).rds] = _
  rw [e1.1, e1.2.1, e1.2.2.1, e1.2.2.2]; rfl
 refine CN (L' := repL p (ackR R f).1 x ++ [outH b S]) (by rw [hrep]; exact (pkZ [0, 0, 0, 0, 0, 0, 1]).ent) ?_
 refine CC Z (fun hb => ?_) (fun hb => CK ?_)
 ·refine xdy ?_
  refine VG (VQ 6 Z (fun Fr w hF hs hS => greet_spec (R := (ackR R f).1) Fr w (RepIn.pcs hS 0 Z Z Z Z Z Z) oka.ch oka.win yd) Z (ψ := fun v H => v = .tuple #[] ∧ H = outH b (S ++ (ackR R f).1.greetM)) yz ?_)
  rintro _ _ ⟨rfl, rfl⟩
  refine xdy ?_
  exact Ret.void Z (repO_shut (R := (ackR R f).1) (x := x)).ent ⟨rfl, by rw [show (ackR R f).2 = (ackR R f).1.greetM by rw [ackR, hb]; rfl]⟩
 ·exact Ret.void Z (repO_shut (R := (ackR R f).1) (x := x)).ent ⟨rfl, by rw [show (ackR R f).2 = [] by rw [ackR, hb]; rfl, List.append_nil]⟩
def forwardF (epoch : Int) (e : EntryM) : FrameM := { FrameM.zero with kind := 4, epoch := epoch, entry := e }
def passN (R : RepM) : Nat → WinM × List SndM
 | 0 => (R.win, [])
 | k + 1 => ((passN R k).1.next, (passN R k).2 ++ [(R.nextM, forwardF R.ch.epoch ((atI R.log ((passN R k).1.sent + 1)).getD entZ))])
def passK (R : RepM) : Nat := (min R.win.last R.win.limit - R.win.sent).toNat
def passR (R : RepM) : RepM × List SndM := ({ R with win := (passN R (passK R)).1 }, (passN R (passK R)).2)
theorem passN_win (R : RepM) : ∀ k, k ≤ passK R → (passN R k).1 = { R.win with sent := R.win.sent + k }
 | 0, _ => by simp [passN]
 | k + 1, h => by
  unfold passK at h
  rw [passN, passN_win R k (by unfold passK; omega)]
  have hb : ({ R.win with sent := R.win.sent + k } : WinM).nextB = true := by simp only [WinM.nextB, Bool.and_eq_true, decide_eq_true_eq]; omega
  rw [WinM.next, if_pos hb]
  have : R.win.sent + (k : Int) + 1 = R.win.sent + ((k + 1 : Nat) : Int) := by push_cast; omega
  show WinM.mk _ _ _ (R.win.sent + (k : Int) + 1) _ = WinM.mk _ _ _ (R.win.sent + ((k + 1 : Nat) : Int)) _
  rw [this]
theorem passN_len (R : RepM) : ∀ k, (passN R k).2.length = k
 | 0 => rfl
 | k + 1 => by rw [passN, List.length_append, passN_len R k]; rfl
theorem next_ok {W : WinM} (h : W.Ok) : W.next.Ok := by
 unfold WinM.next
 split
 ·rename_i hb
  simp only [WinM.nextB, Bool.and_eq_true, decide_eq_true_eq] at hb
  have := h.sent0
  exact ⟨h.cap0, h.cap1, h.done0, h.done1, h.last1, by show 0 ≤ W.sent + 1; omega, by show W.sent + 1 ≤ W.last; omega, h.lim0, h.lim1⟩
 ·exact h
theorem passN_ok {R : RepM} (h : R.Ok) : ∀ k, (passN R k).1.Ok
 | 0 => h.win
 | k + 1 => next_ok (passN_ok h k)
end
section
variable {p : Nat} {R : RepM} {b : Nat} {S : List SndM}
theorem pass_spec (ok : R.Ok) (hS : S.length ≤ 800000) : Tri Tryz.prog 86 [.pointer (some ⟨p, 0, none⟩), sendF b] Fr w [repH p R, outH b S]
  (fun v L => v = .tuple #[] ∧ L = [repH p (passR R).1, outH b (S ++ (passR R).2)]) := by
 have w1 := ok.win.last1; have w2 := ok.win.sent0; have w3 := ok.win.sent1; have w4 := ok.win.lim1; have w5 := ok.win.lim0
 have hlast := ok.last
 have hK : passK R ≤ 4096 := by unfold passK; omega
 refine TF 47 Tryz.func86 Z ym tabOk Z Z ?_
 refine xjh ?_
 rintro x -
 show VC _ _ _ (repO p R x b S) _
 unfold repO
 refine xdy ?_
 refine xka ?_
 refine xdy ?_
 have hnx : ∀ k, k ≤ passK R → ((passN R k).1.nextB = decide (k < passK R)) := fun k hk => by
  rw [passN_win R k hk]
  unfold passK at hk ⊢
  simp only [WinM.nextB]
  by_cases h : (R.win.sent + (k : Int) < R.win.last) ∧ (R.win.sent + (k : Int) < R.win.limit)
  ·rw [DT h.1, DT h.2, DT yd]; rfl
  ·rw [DF (show ¬ k < (min R.win.last R.win.limit - R.win.sent).toNat by omega)]
   by_cases h1 : R.win.sent + (k : Int) < R.win.last
   ·rw [DT h1, DF (fun h2 => h ⟨h1, h2⟩)]; rfl
   ·rw [DF h1]; rfl
 refine VG (VQ 3 Z (fun Fr w hF hs hS => Win.next_spec Fr w ok.win) Z (ψ := fun v H => v = .tuple #[.int .i64 (if R.win.nextB then R.win.sent + 1 else 0), .bool R.win.nextB] ∧ H = winH x.wp R.win.next) yz ?_)
 rintro _ _ ⟨rfl, rfl⟩
 refine xdy ?_
 refine VC.loop (σ := Nat) (fun k => [(0, pV p), (1, sendF b), (4, .int .i64 R.nextM), (5, .int .i64 (if (passN R k).1.nextB then (passN R k).1.sent + 1 else 0)), (6, .bool (passN R k).1.nextB)])
  (fun k => [pt p (repCs R x) repT, slH memT 2 x.a R.ch.ms.length x.c (flat memC R.ch.ms), logH x.lp R.log, winH x.wp (passN R k).1.next, admH x.ap R.adm, rdsH x.rp R.rds, outH b (S ++ (passN R k).2)])
  (fun k => k ≤ passK R) (fun k => passK R - k) 0
  (Nat.zero_le _) sbZ (by rw [show (passN R 0).2 = [] from rfl, List.append_nil]; exact ER) ?_
 intro k hk
 have hnk := hnx k hk
 have hwk := passN_win R k hk
 have hpl := passN_len R k
 have hok := passN_ok ok k
 refine xdy ?_
 refine CC Z (fun h1 => CK ?_) (fun h1 => CX ?_)
 ·have hk2 : k < passK R := by rw [h1] at hnk; exact of_decide_eq_true hnk.symm
  have hs1 : (passN R k).1.sent = R.win.sent + k := by rw [hwk]
  have hbd : R.win.sent + (k : Int) < R.win.last := by unfold passK at hk2; omega
  have hwk2 : (passN R (k + 1)).1 = (passN R k).1.next := rfl
  rw [h1]
  obtain ⟨j, e, hj1, hj2, hj3, hj4⟩ := atI_some (l := R.log) (i := (passN R k).1.sent + 1) yd yd
  refine xdx ?_
  refine xdy ?_
  refine VG (VV (fun Fr w hF hs hS => Lg.at_spec Fr w (hS.at_ 2 Z) ((passN R k).1.sent + 1) yd yd) Z ?_)
  refine xdy ?_
  refine VG (VO.alloc Z fun eb => ?_)
  refine VG (VT (vs := entC ((atI R.log ((passN R k).1.sent + 1)).getD entZ)) 0 Z Z Z Z (NR _) Z Z Z (VG (VN ?_)))
  refine CD (ts 0 9 (.only 9 .nil)) ym yq ?_
  refine xgz ?_
  refine VA.go (VA.ldA 0 (entC ((atI R.log ((passN R k).1.sent + 1)).getD entZ)) Z Z Z Z Z ?_)
  refine VA.go (AI Z (LB (pv := [(0, .int .i64 4), (1, .int .i64 R.ch.epoch), (10, .agg (entC ((atI R.log ((passN R k).1.sent + 1)).getD entZ)).toArray)]) (fgC (forwardF R.ch.epoch ((atI R.log ((passN R k).1.sent + 1)).getD entZ)) mem0) Z Z Z ym Z) ?_)
  refine VA.go (VA.callFAt 7 Z Z (fun Fr w hF hs _ => add_spec Fr w b (S ++ (passN R k).2) ybf R.nextM (forwardF R.ch.epoch ((atI R.log ((passN R k).1.sent + 1)).getD entZ))) Z Z (ψ := fun v H => v = .tuple #[] ∧ H = outH b (S ++ (passN R k).2 ++ [(R.nextM, forwardF R.ch.epoch ((atI R.log ((passN R k).1.sent + 1)).getD entZ))])) yz ?_ ?_)
  ·rintro _ _ ⟨rfl, rfl⟩
   exact yr
  rintro _ _ ⟨rfl, rfl⟩
  refine xeh ?_
  refine xgb ?_
  refine VG (VQ 4 Z (fun Fr w hF hs hS => Win.next_spec Fr w (next_ok hok)) Z (ψ := fun v H => v = .tuple #[.int .i64 (if (passN R (k + 1)).1.nextB then (passN R (k + 1)).1.sent + 1 else 0), .bool (passN R (k + 1)).1.nextB] ∧ H = winH x.wp (passN R (k + 1)).1.next) yz ?_)
  rintro _ _ ⟨rfl, rfl⟩
  refine xdy ?_
  refine ⟨k + 1, hk2, by dsimp only; omega, sbZ, ?_⟩
  dsimp only
  rw [show (passN R (k + 1)).2 = (passN R k).2 ++ [(R.nextM, forwardF R.ch.epoch ((atI R.log ((passN R k).1.sent + 1)).getD entZ))] from rfl, ← List.append_assoc]
  exact (pkZ [1, 1, 1, 1, 1, 1, 1]).ent
 ·have hk2 : k = passK R := by
   rw [h1] at hnk
   have : ¬ k < passK R := of_decide_eq_false hnk.symm
   omega
  have hwn : (passN R k).1.next = (passN R k).1 := by rw [WinM.next, h1]; rfl
  rw [hwn, hk2]
  exact Ret.void Z (Imp.rep (R := (passR R).1) x (IP 0 Z (IP 0 Z (IP 0 Z (IP 0 Z (IP 0 Z (IP 0 Z (IP 0 Z Imp.nil)))))))).ent ⟨rfl, Z⟩
end
end Rep
namespace Rep
open Go Vg T Api Kv Ch Lg Rd Win Adm Sched
attribute [local irreducible] VO VC VA
def refs (epoch : Int) (gs : List FrameM) (reason : Int) : List SndM := gs.map fun f => (32 + f.client, refuseF epoch f reason)
def nextF (R : RepM) (now : Int) : FrameM := (popV (R.adm.expireM now).sch).1
def nextOk (R : RepM) (now : Int) : Bool := (popV (R.adm.expireM now).sch).2.1
def nextE (R : RepM) (now : Int) : EntryM := ⟨R.log.length + 1, (nextF R now).client, (nextF R now).seq, (nextF R now).op⟩
def nextA (R : RepM) (now : Int) : RepM := { R with adm := R.adm.nextM now }
def serveR (R : RepM) (now : Int) : RepM × List SndM × Bool :=
 if nextOk R now = false then (nextA R now, refs R.ch.epoch (R.adm.sch.goneM now) 2, false)
 else if logErr R.log (nextE R now) ≠ 0 then ({ R with adm := ((R.adm.nextM now).barM (nextF R now).client (nextF R now).seq (nextF R now).try_).2 }, refs R.ch.epoch (R.adm.sch.goneM now) 2 ++ [(32 + (nextF R now).client, refuseF R.ch.epoch (nextF R now) 7)], true)
 else ((pushE (nextA R now) (nextE R now)).finishR, refs R.ch.epoch (R.adm.sch.goneM now) 2 ++ (pushE (nextA R now) (nextE R now)).finishM, true)
theorem nextA_ok {R : RepM} (h : R.Ok) (now : Int) : (nextA R now).Ok := ⟨h.ch, h.win, h.last, h.logc, h.logi, h.rc0, h.rc1, h.rl, h.rn0, h.rn1, h.rcl, next_calls h.wf h.calls now, next_wf h.wf now⟩
theorem barM_calls {A : AdmM} (h : A.Calls) (k s t : Int) : (A.barM k s t).2.Calls := by
 have e : (A.barM k s t).2.sch = A.sch ∧ (A.barM k s t).2.clients = A.clients := by
  unfold AdmM.barM
  split
  ·exact ⟨by show (A.barF k s t).sch = _; unfold AdmM.barF; split <;> rfl, barF_clients A k s t⟩
  ·exact ⟨rfl, Z⟩
 unfold AdmM.Calls
 rw [e.1, e.2]; exact h
theorem adm_ok {R : RepM} (h : R.Ok) {A : AdmM} (hC : A.Calls) (hW : A.Wf) : ({ R with adm := A } : RepM).Ok := ⟨h.ch, h.win, h.last, h.logc, h.logi, h.rc0, h.rc1, h.rl, h.rn0, h.rn1, h.rcl, hC, hW⟩
theorem serveR_ok {R : RepM} (h : R.Ok) (hr : R.win.room = true) (now : Int) : (serveR R now).1.Ok := by
 have hn := nextA_ok h now
 unfold serveR
 split
 ·exact hn
 split
 ·exact adm_ok h (barM_calls hn.calls _ _ _) (hn.wf.barM _ _ _)
 ·rename_i h2
  exact finishR_ok (pushE_ok hn ybg hr)
theorem gone_few {R : RepM} (h : R.Ok) (now : Int) : (R.adm.sch.goneM now).length ≤ 64 := by
 have := SchM.Wf.fewG h.wf.sch R.adm.sch.cls.length now
 rw [List.take_length] at this; exact this
theorem next_client {R : RepM} (h : R.Ok) (now : Int) (ho : nextOk R now = true) : 0 ≤ (nextF R now).client ∧ (nextF R now).client < 6 := by
 obtain ⟨h1, h2, h3⟩ := expire_wf h.wf now
 obtain ⟨k, q, e1, e2⟩ := popV_ok h1.sch ho
 have hc := exp_calls h.wf h.calls now _ (ME e1) (nextF R now) (by simp [nextF])
 have := h.wf.c1
 exact ⟨hc.1.1, by have := hc.1.2; rw [h2] at this; omega⟩
section
variable {p : Nat} {R : RepM} {b : Nat} {S : List SndM}
theorem serve_spec (ok : R.Ok) (hr : R.win.room = true) (hS : S.length ≤ 800000) (now : Int) : Tri Tryz.prog 85 [.pointer (some ⟨p, 0, none⟩), .int .i64 now, sendF b] Fr w [repH p R, outH b S]
  (fun v L => v = .bool (serveR R now).2.2 ∧ L = [repH p (serveR R now).1, outH b (S ++ (serveR R now).2.1)]) := by
 have hg64 := gone_few ok now
 have hn := nextA_ok ok now
 have hgc := gone_ok ok.calls now
 have hc6 := ok.wf.c1
 refine TF 85 Tryz.func85 Z ym tabOk Z Z ?_
 refine xjh ?_
 rintro x -
 show VC _ _ _ (repO p R x b S) _
 unfold repO
 refine xdy ?_
 refine VO.ent (L' := [admH x.ap R.adm, pt p (repCs R x) repT, slH memT 2 x.a R.ch.ms.length x.c (flat memC R.ch.ms), logH x.lp R.log, winH x.wp R.win, rdsH x.rp R.rds, outH b S]) (pkZ [4, 0, 0, 0, 0, 0, 0]).ent ?_
 refine VG (VK (Lc := [admH x.ap R.adm]) (fun Fr w hF hs hS => Adm.next_spec Fr w x.ap R.adm now ok.wf ok.calls) Z Z ?_)
 rintro _ _ ⟨r, m, rok, hrx, rfl, rfl⟩
 show VO _ _ _ _ _ [r.h 46, admH x.ap (R.adm.nextM now), pt p (repCs R x) repT, slH memT 2 x.a R.ch.ms.length x.c (flat memC R.ch.ms), logH x.lp R.log, winH x.wp R.win, rdsH x.rp R.rds, outH b S] _
 refine xdy ?_
 refine VG (VO.alloc Z fun fb => ?_)
 refine VG (VT (vs := fmc (nextF R now, m)) 0 Z Z Z Z (NR _) Z Z Z ?_)
 have hrv : r.v = .slice r.addr r.xs.length r.cap := rfl
 rw [hrv]
 refine xdy ?_
 refine VC.loop (σ := Nat) (fun i => [(0, pV p), (2, sendF b), (7, pV fb), (8, .bool (nextOk R now)), (25, .slice r.addr r.xs.length r.cap), (26, .int .i64 r.xs.length), (27, .int .i64 i)])
  (fun i => [pt fb (fmc (nextF R now, m)) frT, r.h frT, admH x.ap (R.adm.nextM now), pt p (repCs R x) repT, slH memT 2 x.a R.ch.ms.length x.c (flat memC R.ch.ms), logH x.lp R.log, winH x.wp R.win, rdsH x.rp R.rds, outH b (S ++ refs R.ch.epoch ((R.adm.sch.goneM now).take i) 2)])
  (fun i => i ≤ r.xs.length) (fun i => r.xs.length - i) 0
  (Nat.zero_le _) sbZ (by rw [List.take_zero, show refs R.ch.epoch [] 2 = [] from rfl, List.append_nil]; exact ER) ?_
 intro i hi
 have hxl : r.xs.length = (R.adm.sch.goneM now).length := by rw [← hrx]; simp
 refine xdy ?_
 refine CP Z (fun h1 => CK ?_) (fun h1 => CX ?_)
 ·have hi2 : i < r.xs.length := by omega
  obtain ⟨g, hg⟩ : ∃ g, r.xs[i]? = some g := ⟨_, GE hi2⟩
  have hgg : (R.adm.sch.goneM now)[i]? = some g.1 := by rw [← hrx, List.getElem?_map, hg]; rfl
  have hcl := hgc g.1 (ME hgg)
  obtain ⟨gb, go, r1, r2, hrd⟩ := rok.ld (t := frT) hg rfl
  rw [r2]
  refine zpu ?_
  refine xkb ?_
  refine VG (VO.alloc Z fun tb => ?_)
  refine VG (VT (vs := fmc g) 0 Z Z Z Z (NR _) Z Z Z ?_)
  refine xdy ?_
  refine VG (VL 0 (fmc g) Z Z Z Z ?_)
  refine VG (VQ 9 Z (fun Fr w hF hs hS => refuse_spec Fr w (hS.blk 4 Z) ybh g.1 g.2 hcl.1.1 (by have := hcl.1.2; omega) 2) Z (ψ := fun v H => v = .tuple #[] ∧ H = outH b (S ++ refs R.ch.epoch ((R.adm.sch.goneM now).take i) 2 ++ [(32 + g.1.client, refuseF R.ch.epoch g.1 2)])) yz ?_)
  rintro _ _ ⟨rfl, rfl⟩
  refine zpg ?_
  refine ⟨i + 1, hi2, by dsimp only; omega, sbZ, ?_⟩
  dsimp only
  rw [show refs R.ch.epoch ((R.adm.sch.goneM now).take (i + 1)) 2 = refs R.ch.epoch ((R.adm.sch.goneM now).take i) 2 ++ [(32 + g.1.client, refuseF R.ch.epoch g.1 2)] by rw [List.take_add_one, hgg]; simp [refs], ← List.append_assoc]
  exact (pkZ [1, 1, 1, 1, 1, 1, 1, 1, 1]).ent
 ·obtain rfl : i = r.xs.length := by omega
  rw [hxl, List.take_length]
  have hrl : (refs R.ch.epoch (R.adm.sch.goneM now) 2).length ≤ 64 := by rw [refs, List.length_map]; exact hg64
  refine xdy ?_
  refine VC.condN Z (fun ho => ?_) (fun ho => CK ?_)
  ·refine xdy ?_
   exact CR (Ret.tmp 6 Z Z (Imp.rep (R := nextA R now) x (IP 3 Z (IP 3 Z (IP 3 Z (IP 3 Z (IP 2 Z (IP 2 Z (IP 2 Z Imp.nil)))))))).ent ⟨by rw [serveR, if_pos ho], by rw [serveR, if_pos ho]⟩)
  have hno : ¬ nextOk R now = false := by rw [ho]; simp
  have hcf := next_client ok now ho
  have w1 := ok.win.last1; have hla := ok.last
  refine CS ?_
  refine VC.meetS (σ := Nat) (fun eb => [(0, pV p), (2, sendF b), (7, pV fb), (12, pV eb)]) (fun eb => [pt eb (entC (nextE R now)) entT, pt fb (fmc (nextF R now, m)) frT, r.h frT, admH x.ap (R.adm.nextM now), pt p (repCs R x) repT, slH memT 2 x.a R.ch.ms.length x.c (flat memC R.ch.ms), logH x.lp R.log, winH x.wp R.win, rdsH x.rp R.rds, outH b (S ++ refs R.ch.epoch (R.adm.sch.goneM now) 2)]) (fun _ => True) ?_ ?_
  ·refine CD (ts 0 4 (ts 6 6 (.two 4 13 (.take 5 (.take 12 (.only 13 (.only 14 .nil)))) (.only 4 (.take 5 (.take 12 (.only 14 .nil))))))) ym yq ?_
   refine xez ?_
   refine VA.go (VA.ldA 0 (nextF R now).op.cells Z Z Z Z Z ?_)
   refine VA.go (VA.two Z Z Z Z Z (OpT.callP (φ := fun v => v = .int .i64 R.log.length) (fun Fr w hF hs hS => Lg.len_spec Fr w (hS.at_ 5 Z)) Z) Z Z Z (OpT.alloc Z) ?_ ?_ ?_ ?_)
   ·rintro _ _ ⟨rfl, rfl⟩
    exact yr
   ·rintro _ _ ⟨eb, rfl, rfl⟩
    exact yr
   ·rintro _ _ ⟨rfl, rfl⟩
    refine xeg ?_
    refine xkc ?_
    refine VA.go (AO (OpT.alloc Z) Z ?_ ?_)
    ·rintro _ _ ⟨eb, rfl, rfl⟩
     exact yr
    rintro _ _ ⟨eb, rfl, rfl⟩
    refine VA.go (AT (vs := entC (nextE R now)) 0 Z Z Z Z Z (NR _) Z Z Z yr ?_)
    refine xeh ?_
    exact ⟨eb, trivial, sbZ, ER⟩
   ·rintro _ _ ⟨eb, rfl, rfl⟩
    refine VA.go (AO (OpT.callP (φ := fun v => v = .int .i64 R.log.length) (fun Fr w hF hs hS => Lg.len_spec Fr w (hS.at_ 6 Z)) Z) Z ?_ ?_)
    ·rintro _ _ ⟨rfl, rfl⟩
     exact yr
    rintro _ _ ⟨rfl, rfl⟩
    refine xeg ?_
    refine xkc ?_
    refine VA.go (AT (vs := entC (nextE R now)) 0 Z Z Z Z Z (NR _) Z Z Z yr ?_)
    refine xeh ?_
    exact ⟨eb, trivial, sbZ, ER⟩
  rintro eb -
  refine CS (CS ?_)
  refine VC.meetS (σ := Nat) (fun rb => [(0, pV p), (2, sendF b), (7, pV fb), (14, .int .i64 (logErr R.log (nextE R now)))]) (fun rb => [pt rb (resC (logRes R.log (nextE R now))) resT, pt eb (entC (nextE R now)) entT, pt fb (fmc (nextF R now, m)) frT, r.h frT, admH x.ap (R.adm.nextM now), pt p (repCs R x) repT, slH memT 2 x.a R.ch.ms.length x.c (flat memC R.ch.ms), logH x.lp (logApp R.log (nextE R now)), winH x.wp R.win, rdsH x.rp R.rds, outH b (S ++ refs R.ch.epoch (R.adm.sch.goneM now) 2)]) (fun _ => True) ?_ ?_
  ·refine xjy ?_
   refine xfb ?_
   refine VA.go (VA.ldA 0 (entC (nextE R now)) Z Z Z Z Z ?_)
   refine VA.go (VA.two Z Z Z Z Z (OpT.callAt (ψ := fun v H => v = .tuple #[.agg (resC (logRes R.log (nextE R now))).toArray, .int .i64 (logErr R.log (nextE R now))] ∧ H = logH x.lp (logApp R.log (nextE R now))) 6 Z (fun Fr w hF hs hS => Lg.append_spec Fr w x.lp R.log (nextE R now)) Z yz) Z Z Z (OpT.alloc Z) ?_ ?_ ?_ ?_)
   ·rintro _ _ ⟨_, ⟨rfl, rfl⟩, rfl⟩
    exact yr
   ·rintro _ _ ⟨rb, rfl, rfl⟩
    exact yr
   ·rintro _ _ ⟨_, ⟨rfl, rfl⟩, rfl⟩
    refine xeh ?_
    refine VA.go (AO (OpT.alloc Z) Z ?_ ?_)
    ·rintro _ _ ⟨rb, rfl, rfl⟩
     exact yr
    rintro _ _ ⟨rb, rfl, rfl⟩
    refine xkd ?_
    exact zqp
   ·rintro _ _ ⟨rb, rfl, rfl⟩
    refine VA.go (AO (OpT.callAt (ψ := fun v H => v = .tuple #[.agg (resC (logRes R.log (nextE R now))).toArray, .int .i64 (logErr R.log (nextE R now))] ∧ H = logH x.lp (logApp R.log (nextE R now))) 7 Z (fun Fr w hF hs hS => Lg.append_spec Fr w x.lp R.log (nextE R now)) Z yz) Z ?_ ?_)
    ·rintro _ _ ⟨_, ⟨rfl, rfl⟩, rfl⟩
     exact yr
    rintro _ _ ⟨_, ⟨rfl, rfl⟩, rfl⟩
    refine xeh ?_
    refine xkd ?_
    exact zqp
  rintro rb -
  refine xdy ?_
  refine VC.condNE Z (fun he => ?_) (fun he => CK ?_)
  ·have hap : logApp R.log (nextE R now) = R.log := by rw [logApp, if_neg he]
   rw [hap]
   refine xfa ?_
   refine xfr ?_
   refine VA.go (AQ 4 Z (fun Fr w hF hs hS => bar_spec Fr w x.ap (R.adm.nextM now) (nextF R now).client (nextF R now).seq (nextF R now).try_) Z Z (ψ := fun v H => H = admH x.ap ((R.adm.nextM now).barM (nextF R now).client (nextF R now).seq (nextF R now).try_).2) ybi ?_ ?_)
   ·rintro _ _ rfl
    exact yr
   rintro _ _ rfl
   refine zrb ?_
   refine VG (VL 2 (fmc (nextF R now, m)) Z Z Z Z ?_)
   refine VG (VQ 10 Z (fun Fr w hF hs hS => refuse_spec Fr w (hS.blk 5 Z) ybf (nextF R now) m hcf.1 yd 7) Z (ψ := fun v H => v = .tuple #[] ∧ H = outH b (S ++ refs R.ch.epoch (R.adm.sch.goneM now) 2 ++ [(32 + (nextF R now).client, refuseF R.ch.epoch (nextF R now) 7)])) yz ?_)
   rintro _ _ ⟨rfl, rfl⟩
   refine xdy ?_
   exact CR (Ret.tmp 6 Z Z (Imp.rep (R := { R with adm := ((R.adm.nextM now).barM (nextF R now).client (nextF R now).seq (nextF R now).try_).2 }) x (IP 5 Z (IP 5 Z (IP 5 Z (IP 5 Z (IP 4 Z (IP 4 Z (IP 4 Z Imp.nil)))))))).ent ⟨by rw [serveR, if_neg hno, if_pos he], by rw [serveR, if_neg hno, if_pos he, ← List.append_assoc]⟩)
  have hap : logApp R.log (nextE R now) = R.log ++ [nextE R now] := by rw [logApp, if_pos he]
  rw [hap]
  have okp := pushE_ok hn (e := nextE R now) he hr
  refine xfn ?_
  refine VG (VQ 8 Z (fun Fr w hF hs hS => Win.push_spec Fr w ok.win hr) Z (ψ := fun v H => v = .bool true ∧ H = winH x.wp { R.win with last := R.win.last + 1 }) yz ?_)
  rintro _ _ ⟨rfl, rfl⟩
  refine VO.ent (L' := [repH p (pushE (nextA R now) (nextE R now)), outH b (S ++ refs R.ch.epoch (R.adm.sch.goneM now) 2)]) (Imp.rep (R := pushE (nextA R now) (nextE R now)) x (pkZ [5, 5, 5, 5, 4, 4, 4])).ent ?_
  refine xdy ?_
  refine VG (VK (Lc := [repH p (pushE (nextA R now) (nextE R now)), outH b (S ++ refs R.ch.epoch (R.adm.sch.goneM now) 2)]) (Lr := []) (fun Fr w hF hs hS => finish_spec Fr w okp ybf) Z Z ?_)
  rintro _ _ ⟨rfl, rfl⟩
  refine xdy ?_
  exact CR (Ret.tmp 6 Z Z ER ⟨by rw [serveR, if_neg hno, if_neg (fun h => h he)], by rw [serveR, if_neg hno, if_neg (fun h => h he), ← List.append_assoc]; rfl⟩)
end
end Rep
namespace Rep
open Go Vg T Api Kv Ch Lg Rd Win Adm Sched
attribute [local irreducible] VO VC VA
def totQ (qs : List (List FrameM)) : Nat := (qs.map List.length).sum
def tot (A : AdmM) : Nat := totQ A.sch.qs
theorem totQ_set : ∀ {qs : List (List FrameM)} {k : Nat} {f : FrameM} {q : List FrameM}, qs[k]? = some (f :: q) → totQ (qs.set k q) + 1 = totQ qs
 | [], k, f, q, h => by simp at h
 | x :: qs, 0, f, q, h => by
  simp only [List.getElem?_cons_zero, Option.some.injEq] at h
  subst h
  simp [totQ]; omega
 | x :: qs, k + 1, f, q, h => by
  have ih := totQ_set (qs := qs) (k := k) (f := f) (q := q) yb
  simp only [totQ, List.set_cons_succ, List.map_cons, List.sum_cons] at ih ⊢
  omega
theorem totQ_filter (p : FrameM → Bool) : ∀ qs : List (List FrameM), totQ (qs.map fun q => q.filter p) ≤ totQ qs
 | [] => NR _
 | x :: qs => by
  have ih := totQ_filter p qs
  have := List.length_filter_le p x
  simp only [totQ, List.map_cons, List.sum_cons] at ih ⊢
  omega
theorem tot_next {R : RepM} (h : R.Ok) (now : Int) (ho : nextOk R now = true) : tot (R.adm.nextM now) < tot R.adm := by
 obtain ⟨h1, h2, h3⟩ := expire_wf h.wf now
 obtain ⟨k, q, e1, e2⟩ := popV_ok h1.sch ho
 have e3 : (R.adm.nextM now).sch = (popV (R.adm.expireM now).sch).2.2 := by
  unfold AdmM.nextM
  split <;> rfl
 have h4 := totQ_set e1
 have h5 := totQ_filter (stay now) R.adm.sch.qs
 rw [← exp_qs, ← h3] at h5
 unfold tot
 rw [e3, e2]
 omega
theorem tot_le {R : RepM} (h : R.Ok) : tot R.adm ≤ 64 := by
 have := SchM.Wf.few h.wf.sch R.adm.sch.cls.length
 rw [List.take_length, List.length_flatMap] at this
 show ((R.adm.sch.cls.map ClsM.q).map List.length).sum ≤ 64
 rw [List.map_map]; exact this
theorem serve_tot {R : RepM} (h : R.Ok) (now : Int) (ho : (serveR R now).2.2 = true) : tot (serveR R now).1.adm < tot R.adm := by
 unfold serveR at ho ⊢
 split at ho
 ·cases ho
 ·rename_i h1
  have hn := tot_next h now ybj
  rw [if_neg h1]
  split
  ·have e : ((R.adm.nextM now).barM (nextF R now).client (nextF R now).seq (nextF R now).try_).2.sch = (R.adm.nextM now).sch := by
    unfold AdmM.barM
    split
    ·show ((R.adm.nextM now).barF _ _ _).sch = _; unfold AdmM.barF; split <;> rfl
    ·rfl
   show tot ((R.adm.nextM now).barM _ _ _).2 < _
   unfold tot at hn ⊢
   rw [e]; exact hn
  ·have e : (pushE (nextA R now) (nextE R now)).finishR.adm = R.adm.nextM now := by unfold RepM.finishR; split <;> rfl
   show tot (pushE (nextA R now) (nextE R now)).finishR.adm < _
   rw [e]; exact hn
theorem serve_sends {R : RepM} (h : R.Ok) (hr : R.win.room = true) (now : Int) : (serveR R now).2.1.length ≤ 4200 := by
 have hg : (refs R.ch.epoch (R.adm.sch.goneM now) 2).length ≤ 64 := by rw [refs, List.length_map]; exact gone_few h now
 unfold serveR
 split
 ·show (refs _ _ _).length ≤ 4200; omega
 split
 ·show (refs R.ch.epoch (R.adm.sch.goneM now) 2 ++ [(32 + (nextF R now).client, refuseF R.ch.epoch (nextF R now) 7)]).length ≤ 4200; rw [List.length_append]; simp; omega
 ·rename_i h2
  have := finishM_len (pushE_ok (nextA_ok h now) (e := nextE R now) ybg hr)
  show (refs R.ch.epoch (R.adm.sch.goneM now) 2 ++ (pushE (nextA R now) (nextE R now)).finishM).length ≤ 4200
  rw [List.length_append]; omega
def serveLoop (now : Int) : Nat → RepM → RepM × List SndM
 | 0, R => (R, [])
 | k + 1, R => if R.win.room = true then
   if (serveR R now).2.2 = true then ((serveLoop now k (serveR R now).1).1, (serveR R now).2.1 ++ (serveLoop now k (serveR R now).1).2)
   else ((serveR R now).1, (serveR R now).2.1)
  else (R, [])
def expR (R : RepM) (now : Int) : RepM := { R with rds := { R.rds with l := R.rds.l.filter (lives now) } }
def expS (R : RepM) (now : Int) : List SndM := refs R.ch.epoch ((R.rds.l.filter (fun y => !lives now y)).map RdM.f) 2
def servesB (R : RepM) : Bool := R.headB && (R.whole && !R.drainsB)
def step2 (R : RepM) (now : Int) : RepM × List SndM := if servesB (expR R now) then serveLoop now 65 (expR R now) else (expR R now, [])
def step3 (R : RepM) (now : Int) : RepM × List SndM := if (step2 R now).1.linked then passR (step2 R now).1 else ((step2 R now).1, [])
def stepR (R : RepM) (now : Int) : RepM × List SndM := ((step3 R now).1, expS R now ++ (step2 R now).2 ++ (step3 R now).2)
theorem expR_ok {R : RepM} (h : R.Ok) (now : Int) : (expR R now).Ok := ⟨h.ch, h.win, h.last, h.logc, h.logi, h.rc0, h.rc1, by
 have := h.rl; have h2 := List.length_filter_le (lives now) R.rds.l
 show ((R.rds.l.filter (lives now)).length : Int) ≤ R.rds.cap; omega, h.rn0, h.rn1, fun y hy => h.rcl y (List.mem_filter.1 hy).1, h.calls, h.wf⟩
theorem serveLoop_ok (now : Int) : ∀ (k : Nat) {R : RepM}, R.Ok → (serveLoop now k R).1.Ok
 | 0, R, h => h
 | k + 1, R, h => by
  rw [serveLoop]
  split
  ·rename_i hr
   split
   ·exact serveLoop_ok now k (serveR_ok h hr now)
   ·exact serveR_ok h hr now
  ·exact h
theorem serveLoop_len (now : Int) : ∀ (k : Nat) {R : RepM}, R.Ok → (serveLoop now k R).2.length ≤ k * 4200
 | 0, R, h => NR _
 | k + 1, R, h => by
  rw [serveLoop]
  split
  ·rename_i hr
   have h1 := serve_sends h hr now
   split
   ·have := serveLoop_len now k (serveR_ok h hr now)
    rw [List.length_append]; omega
   ·show (serveR R now).2.1.length ≤ _; omega
  ·simp
theorem passR_ok {R : RepM} (h : R.Ok) : (passR R).1.Ok := by
 have hw := passN_ok h (passK R)
 have e := passN_win R (passK R) (NR _)
 exact ⟨h.ch, hw, by show (passN R (passK R)).1.last = _; rw [e]; exact h.last, h.logc, h.logi, h.rc0, h.rc1, h.rl, h.rn0, h.rn1, h.rcl, h.calls, h.wf⟩
theorem step2_ok {R : RepM} (h : R.Ok) (now : Int) : (step2 R now).1.Ok := by
 unfold step2
 split
 ·exact serveLoop_ok now 65 (expR_ok h now)
 ·exact expR_ok h now
theorem stepR_ok {R : RepM} (h : R.Ok) (now : Int) : (stepR R now).1.Ok := by
 show (step3 R now).1.Ok
 unfold step3
 split
 ·exact passR_ok (step2_ok h now)
 ·exact step2_ok h now
section
variable {p : Nat} {R : RepM}
def sent (S : List SndM) (v : Value) (L : List HP) (H : List HP) : Prop := ∃ a c, v = .slice a S.length c ∧ L = H ++ [slH sndT 30 a S.length c (flat sndC S)]
theorem step_spec (ok : R.Ok) (now : Int) : Tri Tryz.prog 26 [.pointer (some ⟨p, 0, none⟩), .int .i64 now] Fr w [repH p R]
  (fun v L => sent (stepR R now).2 v L [repH p (stepR R now).1]) := by
 have hrl : R.rds.l.length ≤ 16 := by have := ok.rl; have := ok.rc1; omega
 have ok1 := expR_ok ok now
 have ok2 := step2_ok ok now
 refine TF 72 Tryz.func26 Z ym tabOk Z Z ?_
 refine xjh ?_
 rintro x -
 show VC _ _ _ [pt p (repCs R x) repT, slH memT 2 x.a R.ch.ms.length x.c (flat memC R.ch.ms), logH x.lp R.log, winH x.wp R.win, admH x.ap R.adm, rdsH x.rp R.rds] _
 refine xdy ?_
 refine xke ?_
 refine zps ?_
 refine VG (VO.alloc Z fun ob => ?_)
 refine xdy ?_
 refine xkf ?_
 refine xgb ?_
 refine VO.ent (L' := [rdsH x.rp R.rds, pt p (repCs R x) repT, slH memT 2 x.a R.ch.ms.length x.c (flat memC R.ch.ms), logH x.lp R.log, winH x.wp R.win, admH x.ap R.adm, outH ob []]) (IP 6 Z (IP 1 Z (IP 1 Z (IP 1 Z (IP 1 Z (IP 1 Z (Imp.out (none, 0) (IP 0 Z (Imp.slNil Imp.nil))))))))).ent ?_
 refine VG (VK (Lc := [rdsH x.rp R.rds]) (fun Fr w hF hs hS => Rd.expire_spec Fr w ok.rc0 yd now) Z Z ?_)
 rintro _ _ ⟨ga, gc, rows, hrows, rfl, rfl⟩
 have hrowl : rows.length ≤ 16 := by
  have := congrArg List.length hrows
  rw [List.length_map] at this
  have h2 := List.length_filter_le (fun y => !lives now y) R.rds.l
  omega
 show VO _ _ _ _ _ [rdsH x.rp (expR R now).rds, slH rdT 34 ga rows.length gc (flat rdC rows), pt p (repCs R x) repT, slH memT 2 x.a R.ch.ms.length x.c (flat memC R.ch.ms), logH x.lp R.log, winH x.wp R.win, admH x.ap R.adm, outH ob []] _
 refine VO.opn 1 Z (HOpn.rl rdT ga gc rows rdC_len) ?_
 rintro r ⟨rok, hrv, hrx⟩
 show VO _ _ _ _ _ [r.h rdT, rdsH x.rp (expR R now).rds, pt p (repCs R x) repT, slH memT 2 x.a R.ch.ms.length x.c (flat memC R.ch.ms), logH x.lp R.log, winH x.wp R.win, admH x.ap R.adm, outH ob []] _
 refine xdy ?_
 have hexp : ∀ i, i ≤ rows.length → ((rows.take i).map fun y => y.1.f).length = i := fun i hi => by simp; omega
 refine VC.loop (σ := Nat) (fun i => [(0, pV p), (1, .int .i64 now), (5, pV ob), (6, sendF ob), (18, .slice ga rows.length gc), (19, .int .i64 rows.length), (20, .int .i64 i)])
  (fun i => [r.h rdT, rdsH x.rp (expR R now).rds, pt p (repCs R x) repT, slH memT 2 x.a R.ch.ms.length x.c (flat memC R.ch.ms), logH x.lp R.log, winH x.wp R.win, admH x.ap R.adm, outH ob (refs R.ch.epoch ((rows.take i).map fun y => y.1.f) 2)])
  (fun i => i ≤ rows.length) (fun i => rows.length - i) 0
  (Nat.zero_le _) sbZ ER ?_
 intro i hi
 refine xdy ?_
 refine CP Z (fun h1 => CK ?_) (fun h1 => CX ?_)
 ·have hi2 : i < rows.length := by omega
  obtain ⟨g, hg⟩ : ∃ g, rows[i]? = some g := ⟨_, GE hi2⟩
  have hgm : g.1 ∈ R.rds.l := by
   have h2 : g.1 ∈ rows.map Prod.fst := List.mem_map.2 ⟨g, ME hg, rfl⟩
   rw [hrows] at h2
   exact (List.mem_filter.1 h2).1
  have hcl := ok.rcl g.1 hgm
  obtain ⟨gb, go, r1, r2, hrd⟩ := rok.ld (t := rdT) (hrx ▸ hg) rfl
  obtain rfl : ga = some ⟨gb, go, none⟩ := by rw [RL.v, r2, hrx] at hrv; injection hrv with e1; exact e1.symm
  refine zpu ?_
  refine xkg ?_
  refine VG (VO.alloc Z fun tb => ?_)
  refine xkh ?_
  refine xdy ?_
  refine VG (VL 0 (fgC g.1.f g.2) Z Z Z Z ?_)
  refine VG (VQ 8 Z (fun Fr w hF hs hS => refuse_spec Fr w (hS.blk 3 Z) (by rw [refs, List.length_map, hexp i yd]; omega) g.1.f g.2 hcl.1 yd 2) Z (ψ := fun v H => v = .tuple #[] ∧ H = outH ob (refs R.ch.epoch ((rows.take i).map fun y => y.1.f) 2 ++ [(32 + g.1.f.client, refuseF R.ch.epoch g.1.f 2)])) yz ?_)
  rintro _ _ ⟨rfl, rfl⟩
  refine zpg ?_
  refine ⟨i + 1, hi2, by dsimp only; omega, sbZ, ?_⟩
  dsimp only
  rw [show refs R.ch.epoch ((rows.take (i + 1)).map fun y => y.1.f) 2 = refs R.ch.epoch ((rows.take i).map fun y => y.1.f) 2 ++ [(32 + g.1.f.client, refuseF R.ch.epoch g.1.f 2)] by rw [List.take_add_one, hg]; simp [refs]]
  exact (pkZ [1, 1, 1, 1, 1, 1, 1, 1]).ent
 obtain rfl : i = rows.length := by omega
 rw [List.take_length]
 have hes : refs R.ch.epoch (rows.map fun y => y.1.f) 2 = expS R now := by
  unfold expS
  rw [← hrows, List.map_map]; rfl
 have hel : (expS R now).length ≤ 16 := by rw [← hes, refs, List.length_map, List.length_map]; exact hrowl
 rw [hes]
 refine CN (L' := [repH p (expR R now), outH ob (expS R now)]) (Imp.rep (R := expR R now) x (pkZ [2, 2, 2, 2, 2, 1, 1])).ent ?_
 have hl2 : (step2 R now).2.length ≤ 273000 := by
  unfold step2
  split
  ·have := serveLoop_len now 65 ok1; omega
  ·simp
 refine CS ?_
 refine VC.meetS (σ := Unit) (fun _ => [(0, pV p), (5, pV ob), (6, sendF ob)]) (fun _ => [repH p (step2 R now).1, outH ob (expS R now ++ (step2 R now).2)]) (fun _ => True) ?_ ?_
 ·have no : servesB (expR R now) = false → ∀ {X : Cx} {y : RepS}, Ent X (repO p (expR R now) y ob (expS R now)) [repH p (step2 R now).1, outH ob (expS R now ++ (step2 R now).2)] := fun h {X} {y} => by
   have e : step2 R now = (expR R now, []) := by rw [step2, h]; rfl
   rw [e, List.append_nil]; exact repO_shut.ent
  refine VC.opn 0 Z (HOpn.rep p (expR R now)) ?_
  rintro x2 -
  show VC _ _ _ (repO p (expR R now) x2 ob (expS R now)) _
  refine xdy ?_
  refine VG (VV (fun Fr w hF hs hS => head_spec Fr w (RepIn.pcs hS 0 Z Z Z Z Z Z).blk (RepIn.pcs hS 0 Z Z Z Z Z Z).mem ok1.ch) Z ?_)
  refine xdy ?_
  cases h1 : (expR R now).headB with
  | false =>
   refine VG (VY 32 false Z Z ?_)
   refine xel ?_
   refine VG (VY 38 false Z Z ?_)
   refine zpn ?_
   exact ⟨(), trivial, sbZ, no (by rw [servesB, h1]; rfl)⟩
  | true =>
  refine VG (VY 32 true Z Z ?_)
  refine xel ?_
  cases h2 : R.whole with
  | false =>
   refine VG (VY 38 false Z h2 ?_)
   refine zpn ?_
   exact ⟨(), trivial, sbZ, no (by rw [servesB, h1]; show (true && (R.whole && _)) = false; rw [h2]; rfl)⟩
  | true =>
  refine VG (VY 38 true Z h2 ?_)
  refine xel ?_
  refine VG (VV (fun Fr w hF hs hS => drains_spec Fr w (RepIn.pcs hS 0 Z Z Z Z Z Z).blk) Z ?_)
  refine xel ?_
  refine VC.condN Z (fun h3 => ?_) (fun h3 => CK ?_)
  rotate_left
  ·exact ⟨(), trivial, sbZ, no (by rw [servesB, h1, h3]; show (true && (R.whole && _)) = false; rw [h2]; rfl)⟩
  have hsb : servesB (expR R now) = true := by rw [servesB, h1, h3]; show (true && (R.whole && _)) = true; rw [h2]; rfl
  have he2 : step2 R now = serveLoop now 65 (expR R now) := by rw [step2, hsb]; rfl
  have ht := tot_le ok1
  refine CN (L' := [repH p (expR R now), outH ob (expS R now)]) repO_shut.ent ?_
  refine xdy ?_
  refine VC.loop (σ := Nat × RepM × List SndM) (fun _ => [(0, pV p), (1, .int .i64 now), (5, pV ob), (6, sendF ob)]) (fun y => [repH p y.2.1, outH ob (expS R now ++ y.2.2)])
   (fun y => y.2.1.Ok ∧ tot y.2.1.adm < y.1 ∧ y.2.2.length + y.1 * 4200 ≤ 273000 ∧ serveLoop now 65 (expR R now) = ((serveLoop now y.1 y.2.1).1, y.2.2 ++ (serveLoop now y.1 y.2.1).2)) (fun y => y.1) (65, expR R now, [])
   ⟨ok1, by dsimp only; omega, by simp, rfl⟩ sbZ (by dsimp only; rw [List.append_nil]; exact ER) ?_
  rintro ⟨k, Q, T⟩ ⟨okQ, htQ, hlT, hlp⟩
  dsimp only at okQ htQ hlT hlp ⊢
  obtain ⟨k, rfl⟩ : ∃ j, k = j + 1 := ⟨k - 1, by omega⟩
  have q1 := okQ.win.last1; have q2 := okQ.last
  refine VC.opn 0 Z (HOpn.rep p Q) ?_
  rintro x3 -
  show VC _ _ _ (repO p Q x3 ob (expS R now ++ T)) _
  unfold repO
  refine xdy ?_
  refine VG (VV (fun Fr w hF hs hS => Win.free_spec Fr w (hS.blk 3 Z) okQ.win) Z ?_)
  refine xdy ?_
  by_cases hroom : Q.win.room = true
  ·have hr2 : Q.win.last < Q.win.done + Q.win.cap ∧ Q.win.last < 4096 := by simpa [WinM.room] using hroom
   refine VG (VY 49 true Z (DT yd) ?_)
   refine xel ?_
   refine VG (VV (fun Fr w hF hs hS => Lg.len_spec Fr w (hS.at_ 2 Z)) Z ?_)
   refine xel ?_
   refine VG (VY 57 true Z (DT yd) ?_)
   refine xel ?_
   refine VO.ent (L' := [repH p Q, outH ob (expS R now ++ T)]) (repO_shut (x := x3)).ent ?_
   refine VG (VK (Lc := [repH p Q, outH ob (expS R now ++ T)]) (Lr := []) (fun Fr w hF hs hS => serve_spec Fr w okQ hroom ybf now) Z Z ?_)
   rintro _ _ ⟨rfl, rfl⟩
   have hss := serve_sends okQ hroom now
   refine xel ?_
   refine CC Z (fun hs => CK ?_) (fun hs => CX ?_)
   ·have hst := serve_tot okQ now hs
    refine xdy ?_
    refine CK ?_
    refine ⟨(k, (serveR Q now).1, T ++ (serveR Q now).2.1), ⟨serveR_ok okQ hroom now, by dsimp only; omega, by dsimp only; rw [List.length_append]; omega, ?_⟩, by dsimp only; omega, sbZ, ?_⟩
    ·dsimp only
     rw [hlp, serveLoop, if_pos hroom, if_pos hs, List.append_assoc]
    ·dsimp only; rw [← List.append_assoc]; exact ER
   ·refine ⟨(), trivial, sbZ, ?_⟩
    rw [he2, hlp, serveLoop, if_pos hroom, if_neg (by rw [hs]; simp), ← List.append_assoc]
    exact ER
  ·have hr2 : ¬ (0 < max (min (Q.win.done + Q.win.cap) 4096 - Q.win.last) 0) := fun h => hroom (by simp only [WinM.room, Bool.and_eq_true, decide_eq_true_eq]; omega)
   refine VG (VY 49 false Z (DF hr2) ?_)
   refine xel ?_
   refine VG (VY 57 false Z Z ?_)
   refine xel ?_
   refine VC.condF Z (CX ?_)
   refine ⟨(), trivial, sbZ, ?_⟩
   rw [he2, hlp, serveLoop, if_neg hroom, List.append_nil]
   exact (repO_shut (x := x3)).ent
 rintro _ -
 refine CS ?_
 refine VC.meetS (σ := Unit) (fun _ => [(5, pV ob)]) (fun _ => [repH p (stepR R now).1, outH ob (stepR R now).2]) (fun _ => True) ?_ ?_
 ·refine VC.opn 0 Z (HOpn.rep p (step2 R now).1) ?_
  rintro x2 -
  show VC _ _ _ (repO p (step2 R now).1 x2 ob (expS R now ++ (step2 R now).2)) _
  unfold repO
  refine xdy ?_
  refine CC Z (fun hk => ?_) (fun hk => CK ?_)
  ·have e3 : step3 R now = passR (step2 R now).1 := by rw [step3, hk]; rfl
   refine CN (L' := [repH p (step2 R now).1, outH ob (expS R now ++ (step2 R now).2)]) (repO_shut (x := x2)).ent ?_
   refine xdy ?_
   refine VG (VK (Lc := [repH p (step2 R now).1, outH ob (expS R now ++ (step2 R now).2)]) (Lr := []) (fun Fr w hF hs hS => pass_spec Fr w ok2 ybf) Z Z ?_)
   rintro _ _ ⟨rfl, rfl⟩
   refine xdy ?_
   exact ⟨(), trivial, sbZ, by show Ent _ _ [repH p (step3 R now).1, outH ob (expS R now ++ (step2 R now).2 ++ (step3 R now).2)]; rw [e3]; exact ER⟩
  ·have e3 : step3 R now = ((step2 R now).1, []) := by rw [step3, hk]; rfl
   exact ⟨(), trivial, sbZ, by show Ent _ _ [repH p (step3 R now).1, outH ob (expS R now ++ (step2 R now).2 ++ (step3 R now).2)]; rw [e3, List.append_nil]; exact (repO_shut (x := x2)).ent⟩
 rintro _ -
 refine VC.opn 1 Z (HOpn.out ob _) ?_
 rintro ⟨a, c⟩ -
 show VC _ _ _ [pt ob [.slice a (stepR R now).2.length c] outT, slH sndT 30 a (stepR R now).2.length c (flat sndC (stepR R now).2), repH p (stepR R now).1] _
 refine xdy ?_
 exact CR (Ret.tmp 4 Z Z (IP 2 Z (IP 1 Z Imp.nil)).ent ⟨a, c, Z, Z⟩)
end
end Rep
namespace Rep
open Go Vg T Api Kv Ch Lg Rd Win Adm Sched
attribute [local irreducible] VO VC VA
theorem copied_spec {c : ChM} {a : Option Addr} {cap : Nat} (h : RwIn memC 2 Fr w a c.ms) (hl : c.ms.length ≤ 1000000) : Tri Tryz.prog 121 [.agg (c.cells a cap).toArray] Fr w []
  (fun v L => ∃ a' c', v = .agg (c.cells a' c').toArray ∧ L = [slH memT 2 a' c.ms.length c' (flat memC c.ms)]) := by
 refine TF 8 Tryz.func121 Z ym tabOk Z Z ?_
 refine CS (CG (VG (VB (vs := c.cells a cap) Z (fun b => VG (VO.alloc Z fun d => VG (VN ?_))))))
 refine xgb ?_
 refine VO.ent (L' := [slH memT 2 none 0 0 [], pt d [.int .i64 0, .slice none 0 0, .int .i64 0] chT, pt b (c.cells a cap) chT]) (Imp.slNil (pkZ [0, 0])).ent ?_
 refine VG (VO.append (m := c.ms.length) (news := flat memC c.ms) 0 Z Z Z Z Z Z Z (RwIn.row memC_len h) (flat_all memC_one _) ybk yd fun a' c' _ => ?_)
 rw [Nat.zero_add, List.nil_append]
 refine xdy ?_
 refine VG (VO.st 2 (cs' := c.cells a' c') Z Z Z Z yaj Z Z (VG (VN ?_)))
 refine CS (CG (VG (VL 2 (c.cells a' c') Z Z Z Z (VG (VT (vs := c.cells a' c') (cs' := c.cells a' c') 1 Z Z Z Z (NR _) Z Z Z (VG (VN ?_)))))))
 exact xki
def maxI : Int := 9223372036854775807
def ent1 (R : RepM) (c : ChM) : RepM := { R with adm := R.adm.expireM maxI, rds := { R.rds with l := [] }, ch := c }
def nlB (R : RepM) (c : ChM) : Bool := (sinceOf c R.id).2 && decide ((sinceOf c R.id).1 ≠ R.since)
def nwB (R : RepM) (c : ChM) : Bool := !(sinceOf c R.id).2 || decide ((sinceOf c R.id).1 ≠ R.since)
def ent2 (R : RepM) (c : ChM) : RepM := { ent1 R c with log := if nlB R c then [] else R.log, win := if nlB R c then WinM.new R.cap else R.win }
def ent3 (R : RepM) (c : ChM) : RepM := { ent2 R c with whole := if nwB R c then false else R.whole }
def ent4 (R : RepM) (c : ChM) : RepM := { ent3 R c with since := (sinceOf c R.id).1, linked := false, have_ := 0, base := -1, win := { (ent2 R c).win with sent := (ent2 R c).win.last, limit := 0 } }
def ent5 (R : RepM) (c : ChM) : RepM := if (ent4 R c).whole then { ent4 R c with start := (ent4 R c).win.last } else ent4 R c
def entG (R : RepM) (c : ChM) : List SndM := refs c.epoch (R.adm.sch.goneM maxI) 9 ++ refs c.epoch (R.rds.l.map RdM.f) 9
def enterR (R : RepM) (c : ChM) : RepM × List SndM := ((ent5 R c).finishR, entG R c ++ (ent5 R c).finishM ++ (ent5 R c).finishR.greetM ++ (ent5 R c).finishR.baseM ++ (ent5 R c).finishR.masterM)
theorem ent1_ok {R : RepM} (h : R.Ok) {c : ChM} (hc : ChS c) : (ent1 R c).Ok := ⟨hc, h.win, h.last, h.logc, h.logi, h.rc0, h.rc1, by show (0 : Int) ≤ _; have := h.rc0; exact Int.le_trans yy this, h.rn0, h.rn1, fun y hy => absurd hy (List.not_mem_nil), (by
  obtain ⟨h1, h2, h3⟩ := expire_wf h.wf maxI
  intro q hq g hg
  have := exp_calls h.wf h.calls maxI q hq g hg
  exact this), (expire_wf h.wf maxI).1⟩
theorem ent2_ok {R : RepM} (h : R.Ok) {c : ChM} (hc : ChS c) (h0 : 1 ≤ R.cap) (h1 : R.cap ≤ 16) : (ent2 R c).Ok := by
 have k := ent1_ok h hc
 refine ⟨hc, ?_, ?_, ?_, ?_, k.rc0, k.rc1, k.rl, k.rn0, k.rn1, k.rcl, k.calls, k.wf⟩
 ·show (if nlB R c then WinM.new R.cap else R.win).Ok; split; exact WinM.new_ok h0 h1; exact h.win
 ·show (if nlB R c then WinM.new R.cap else R.win).last = ((if nlB R c then [] else R.log).length : Int); split; rfl; exact h.last
 ·show ∀ e ∈ (if nlB R c then [] else R.log), _; split; exact fun e he => absurd he List.not_mem_nil; exact h.logc
 ·show ∀ e ∈ (if nlB R c then [] else R.log), 1 ≤ e.index ∧ e.index ≤ ((if nlB R c then [] else R.log).length : Int); split; exact fun e he => absurd he List.not_mem_nil; exact h.logi
theorem ent4_ok {R : RepM} (h : R.Ok) {c : ChM} (hc : ChS c) (h0 : 1 ≤ R.cap) (h1 : R.cap ≤ 16) : (ent4 R c).Ok := by
 have k := ent2_ok h hc h0 h1
 have w := k.win
 exact ⟨hc, ⟨w.cap0, w.cap1, w.done0, w.done1, w.last1, by have := w.done0; have := w.done1; show 0 ≤ (ent2 R c).win.last; omega, Int.le_refl _, Int.le_refl _, (by decide : (0 : Int) ≤ 4112)⟩, k.last, k.logc, k.logi, k.rc0, k.rc1, k.rl, k.rn0, k.rn1, k.rcl, k.calls, k.wf⟩
theorem ent5_ok {R : RepM} (h : R.Ok) {c : ChM} (hc : ChS c) (h0 : 1 ≤ R.cap) (h1 : R.cap ≤ 16) : (ent5 R c).Ok := by
 have k := ent4_ok h hc h0 h1
 unfold ent5
 split
 ·exact ⟨k.ch, k.win, k.last, k.logc, k.logi, k.rc0, k.rc1, k.rl, k.rn0, k.rn1, k.rcl, k.calls, k.wf⟩
 ·exact k
theorem enterR_ok {R : RepM} (h : R.Ok) {c : ChM} (hc : ChS c) (h0 : 1 ≤ R.cap) (h1 : R.cap ≤ 16) : (enterR R c).1.Ok := finishR_ok (ent5_ok h hc h0 h1)
section
variable {p : Nat} {R : RepM} {b : Nat} {S : List SndM} {c : ChM} {a : Option Addr} {cap : Nat}
theorem enter_spec (ok : R.Ok) (hc0 : 1 ≤ R.cap) (hc1 : R.cap ≤ 16) (hS : S.length ≤ 800000) (hm : RwIn memC 2 Fr w a c.ms) (hc : ChS c) : Tri Tryz.prog 61 [.pointer (some ⟨p, 0, none⟩), .agg (c.cells a cap).toArray, sendF b] Fr w [repH p R, outH b S]
  (fun v L => v = .tuple #[] ∧ L = [repH p (enterR R c).1, outH b (S ++ (enterR R c).2)]) := by
 have hg64 := gone_few ok maxI
 have hgc := gone_ok ok.calls maxI
 have hrl := ok.rl; have hrc := ok.rc1
 have hcl := hc.len
 have ok2 := ent2_ok ok hc hc0 hc1
 have ok4 := ent4_ok ok hc hc0 hc1
 have ok5 := ent5_ok ok hc hc0 hc1
 refine TF 143 Tryz.func61 Z ym tabOk Z Z ?_
 refine CS (CG (VG (VB (vs := c.cells a cap) Z fun cb => VG (VN ?_))))
 refine xjs ?_
 rintro x -
 refine CN (L' := [admH x.ap R.adm, pt p (repCs R x) repT, slH memT 2 x.a R.ch.ms.length x.c (flat memC R.ch.ms), logH x.lp R.log, winH x.wp R.win, rdsH x.rp R.rds, pt cb (c.cells a cap) chT, outH b S]) (pkZ [4, 0, 0, 0, 0, 0, 0, 0]).ent ?_
 refine CS ?_
 refine CD (ts 0 4 (ts 5 4 (.only 4 (.only 9 (ts 10 2 .nil))))) ym yq ?_
 refine xgz ?_
 refine VA.go (AO (OC (Lc := [admH x.ap R.adm]) (R := goneL x.ap (R.adm.expireM maxI) (R.adm.sch.goneM maxI)) Z (.refl _) (fun Fr w hF hs hS => Adm.flush_spec Fr w x.ap R.adm ok.calls)) Z ?_ ?_)
 ·rintro _ _ ⟨_, ⟨r, rok, hrx, rfl, rfl⟩, rfl⟩
  exact yr
 rintro _ _ ⟨_, ⟨r, rok, hrx, rfl, rfl⟩, rfl⟩
 refine xha ?_
 refine VA.ent (L' := [rdsH x.rp R.rds, r.h frT, admH x.ap (R.adm.expireM maxI), pt p (repCs R x) repT, slH memT 2 x.a R.ch.ms.length x.c (flat memC R.ch.ms), logH x.lp R.log, winH x.wp R.win, pt cb (c.cells a cap) chT, outH b S]) (pkZ [6, 0, 0, 0, 0, 0, 0, 0, 0]).ent ?_
 refine VA.go (AO (OC (Lc := [rdsH x.rp R.rds]) (R := fun v L => ∃ a c rows, rows.map Prod.fst = R.rds.l ∧ v = .slice a rows.length c ∧ L = [rdsH x.rp { R.rds with l := [] }, slH rdT 34 a rows.length c (flat rdC rows)]) Z (.refl _) (fun Fr w hF hs hS => Rd.flush_spec Fr w ok.rc0 yd)) Z ?_ ?_)
 ·rintro _ _ ⟨_, ⟨ga, gc, rows, hrows, rfl, rfl⟩, rfl⟩
  exact yr
 rintro _ _ ⟨_, ⟨ga, gc, rows, hrows, rfl, rfl⟩, rfl⟩
 have hrowl : rows.length ≤ 16 := by
  have := congrArg List.length hrows
  rw [List.length_map] at this
  omega
 have hrv : r.v = .slice r.addr r.xs.length r.cap := rfl
 rw [hrv]
 refine xfb ?_
 show VC _ _ _ [rdsH x.rp (ent1 R c).rds, slH rdT 34 ga rows.length gc (flat rdC rows), r.h frT, admH x.ap (ent1 R c).adm, pt p (repCs R x) repT, slH memT 2 x.a R.ch.ms.length x.c (flat memC R.ch.ms), logH x.lp R.log, winH x.wp R.win, pt cb (c.cells a cap) chT, outH b S] _
 refine xhm ?_
 refine xdy ?_
 refine VG (VL 8 (c.cells a cap) Z Z Z Z ?_)
 refine xkj ?_
 rintro _ _ ⟨a', c', rfl, rfl⟩
 refine VG (VT (vs := c.cells a' c') (cs' := repCs (ent1 R c) { x with a := a', c := c' }) 5 Z Z Z Z (by show 4 + 3 ≤ 17; omega) Z Z Z ?_)
 refine xgk ?_
 refine CN (L' := [pt p (repCs (ent1 R c) { x with a := a', c := c' }) repT, slH memT 2 a' c.ms.length c' (flat memC c.ms), logH x.lp R.log, winH x.wp R.win, admH x.ap (ent1 R c).adm, rdsH x.rp (ent1 R c).rds, slH rdT 34 ga rows.length gc (flat rdC rows), r.h frT, outH b S]) (pkZ [5, 0, 5, 5, 3, 0, 0, 0, 2]).ent ?_
 refine CS (CD (ts 0 8 (.only 8 (ts 9 5 .nil))) ym yq ?_)
 refine xeh ?_
 refine VA.go (VA.ldA 0 (c.cells a' c') Z Z Z Z Z ?_)
 refine xeh ?_
 refine VA.go (AR (fun Fr w hF hs hS => Ch.since_spec Fr w (RwIn.slH memC_len (hS.at_ 1 Z)) yd R.id) Z Z yr ?_)
 refine xeh ?_
 have hE : ∀ {E : Env} {s : RepS}, True := fun {_} {_} => trivial
 refine CS ?_
 refine VC.meetS (σ := RepS) (fun _ => [(0, pV p), (2, sendF b), (6, .slice r.addr r.xs.length r.cap), (7, .slice ga rows.length gc), (8, .int .i64 (sinceOf c R.id).1), (9, .bool (sinceOf c R.id).2)])
  (fun y => [pt p (repCs (ent2 R c) y) repT, slH memT 2 y.a c.ms.length y.c (flat memC c.ms), logH y.lp (ent2 R c).log, winH y.wp (ent2 R c).win, admH y.ap (ent1 R c).adm, rdsH y.rp (ent1 R c).rds, slH rdT 34 ga rows.length gc (flat rdC rows), r.h frT, outH b S]) (fun _ => True) ?_ ?_
 ·have S6 : ∀ {E : Env}, Vg.look E 0 = some (.pointer (some ⟨p, 0, none⟩)) → Vg.look E 2 = some (sendF b) → Vg.look E 6 = some (.slice r.addr r.xs.length r.cap) → Vg.look E 7 = some (.slice ga rows.length gc) → Vg.look E 8 = some (.int .i64 (sinceOf c R.id).1) → Vg.look E 9 = some (.bool (sinceOf c R.id).2) →
    Sub [(0, pV p), (2, sendF b), (6, .slice r.addr r.xs.length r.cap), (7, .slice ga rows.length gc), (8, .int .i64 (sinceOf c R.id).1), (9, .bool (sinceOf c R.id).2)] E := fun h0 h1 h2 h3 h4 h5 => SC h0 (SC h1 (SC h2 (SC h3 (SC h4 (SC h5 (SN _))))))
  have no : nlB R c = false → ∀ {X : Cx}, Ent X [pt p (repCs (ent1 R c) { x with a := a', c := c' }) repT, slH memT 2 a' c.ms.length c' (flat memC c.ms), logH x.lp R.log, winH x.wp R.win, admH x.ap (ent1 R c).adm, rdsH x.rp (ent1 R c).rds, slH rdT 34 ga rows.length gc (flat rdC rows), r.h frT, outH b S]
    [pt p (repCs (ent2 R c) { x with a := a', c := c' }) repT, slH memT 2 a' c.ms.length c' (flat memC c.ms), logH x.lp (ent2 R c).log, winH x.wp (ent2 R c).win, admH x.ap (ent1 R c).adm, rdsH x.rp (ent1 R c).rds, slH rdT 34 ga rows.length gc (flat rdC rows), r.h frT, outH b S] := fun h {X} => by
   rw [show (ent2 R c).log = R.log by show (if nlB R c then [] else R.log) = _; rw [h]; rfl, show (ent2 R c).win = R.win by show (if nlB R c then WinM.new R.cap else R.win) = _; rw [h]; rfl]
   exact ER
  refine xdy ?_
  by_cases h1 : (sinceOf c R.id).2 = true
  rotate_left
  ·have h1 : (sinceOf c R.id).2 = false := by simpa using h1
   refine VG (VY 42 false Z h1 ?_)
   refine zpn ?_
   exact ⟨{ x with a := a', c := c' }, trivial, S6 Z Z Z Z Z Z, no (by rw [nlB, h1]; rfl)⟩
  refine VG (VY 42 true Z h1 ?_)
  refine xel ?_
  refine VC.condNE (i := (sinceOf c R.id).1) (j := R.since) Z (fun h2 => ?_) (fun h2 => CK ?_)
  rotate_left
  ·exact ⟨{ x with a := a', c := c' }, trivial, S6 Z Z Z Z Z Z, no (by rw [nlB, h1, h2]; simp)⟩
  refine xdy ?_
  refine VG (VK (Lc := []) (fun Fr w _ _ _ => Lg.new_spec Fr w) Z Z ?_)
  rintro _ _ ⟨lp, rfl, rfl⟩
  refine VG (VO.st 1 (cs' := repCs (ent1 R c) { x with a := a', c := c', lp := lp }) Z Z Z Z (by show 9 < 17; omega) Z Z ?_)
  refine xgb ?_
  refine VG (VK (Lc := []) (fun Fr w _ _ _ => Win.new_spec Fr w hc0 hc1) Z Z ?_)
  rintro _ _ ⟨wp, rfl, rfl⟩
  refine xdy ?_
  refine VG (VO.st 2 (cs' := repCs (ent1 R c) { x with a := a', c := c', lp := lp, wp := wp }) Z Z Z Z (by show 10 < 17; omega) Z Z ?_)
  refine xdy ?_
  have hn : nlB R c = true := by rw [nlB, h1, DT h2]; rfl
  refine ⟨{ x with a := a', c := c', lp := lp, wp := wp }, trivial, S6 Z Z Z Z Z Z, ?_⟩
  rw [show (ent2 R c).log = [] by show (if nlB R c then [] else R.log) = _; rw [hn]; rfl, show (ent2 R c).win = WinM.new R.cap by show (if nlB R c then WinM.new R.cap else R.win) = _; rw [hn]; rfl]
  exact (pkZ [2, 2, 1, 0, 2, 2, 2, 2, 2]).ent
 rintro y -
 have ewhole : (ent2 R c).whole = R.whole := rfl
 refine CS ?_
 refine VC.meetS (σ := Unit) (fun _ => [(0, pV p), (2, sendF b), (6, .slice r.addr r.xs.length r.cap), (7, .slice ga rows.length gc), (8, .int .i64 (sinceOf c R.id).1)])
  (fun _ => [pt p (repCs (ent3 R c) y) repT, slH memT 2 y.a c.ms.length y.c (flat memC c.ms), logH y.lp (ent2 R c).log, winH y.wp (ent2 R c).win, admH y.ap (ent1 R c).adm, rdsH y.rp (ent1 R c).rds, slH rdT 34 ga rows.length gc (flat rdC rows), r.h frT, outH b S]) (fun _ => True) ?_ ?_
 ·have S5 : ∀ {E : Env}, Vg.look E 0 = some (.pointer (some ⟨p, 0, none⟩)) → Vg.look E 2 = some (sendF b) → Vg.look E 6 = some (.slice r.addr r.xs.length r.cap) → Vg.look E 7 = some (.slice ga rows.length gc) → Vg.look E 8 = some (.int .i64 (sinceOf c R.id).1) →
    Sub [(0, pV p), (2, sendF b), (6, .slice r.addr r.xs.length r.cap), (7, .slice ga rows.length gc), (8, .int .i64 (sinceOf c R.id).1)] E := fun h0 h1 h2 h3 h4 => SC h0 (SC h1 (SC h2 (SC h3 (SC h4 (SN _)))))
  have yes : nwB R c = true → repCs (ent3 R c) y = repCs { ent2 R c with whole := false } y := fun h => by
   rw [show ent3 R c = { ent2 R c with whole := false } by unfold ent3; rw [h]; rfl]
  have no : nwB R c = false → repCs (ent3 R c) y = repCs (ent2 R c) y := fun h => by
   rw [show ent3 R c = ent2 R c by unfold ent3; rw [h]; rfl]
  refine xdy ?_
  by_cases h1 : (sinceOf c R.id).2 = true
  rotate_left
  ·have h1 : (sinceOf c R.id).2 = false := by simpa using h1
   refine VG (VY 67 true Z (by rw [h1]; rfl) ?_)
   refine zpl ?_
   refine xkk ?_
   refine xdy ?_
   refine ⟨(), trivial, S5 Z Z Z Z Z, ?_⟩
   dsimp only
   rw [yes (by rw [nwB, h1]; rfl)]
   exact ER
  refine VG (VY 67 false Z (by rw [h1]; rfl) ?_)
  refine xel ?_
  refine VC.condNE (i := (sinceOf c R.id).1) (j := R.since) Z (fun h2 => ?_) (fun h2 => CK ?_)
  ·refine xdy ?_
   refine xkk ?_
   refine xdy ?_
   refine ⟨(), trivial, S5 Z Z Z Z Z, ?_⟩
   dsimp only
   rw [yes (by rw [nwB, h1, DT h2]; rfl)]
   exact ER
  ·refine ⟨(), trivial, S5 Z Z Z Z Z, ?_⟩
   dsimp only
   rw [no (by rw [nwB, h1, h2]; simp)]
   exact ER
 rintro _ -
 refine xdy ?_
 refine VG (VO.st 0 (cs' := repCs { ent3 R c with since := (sinceOf c R.id).1 } y) Z Z Z Z (by show 7 < 17; omega) Z Z ?_)
 refine xgk ?_
 refine xdy ?_
 refine VG (VO.st 0 (cs' := repCs { ent3 R c with since := (sinceOf c R.id).1, linked := false } y) Z Z Z Z (by show 15 < 17; omega) Z Z ?_)
 refine xdy ?_
 refine VG (VO.st 0 (cs' := repCs { ent3 R c with since := (sinceOf c R.id).1, linked := false, have_ := 0 } y) Z Z Z Z (by show 16 < 17; omega) Z Z ?_)
 refine xdy ?_
 refine VG (VO.st 0 (cs' := repCs (ent4 R c) y) Z Z Z Z (by show 14 < 17; omega) Z Z ?_)
 refine xdy ?_
 refine VG (VQ 3 Z (fun Fr w hF hs hS => Win.renew_spec Fr w ok2.win) Z (ψ := fun v H => v = .tuple #[] ∧ H = winH y.wp (ent4 R c).win) yz ?_)
 rintro _ _ ⟨rfl, rfl⟩
 refine xgk ?_
 show VC _ _ _ [pt p (repCs (ent4 R c) y) repT, slH memT 2 y.a c.ms.length y.c (flat memC c.ms), logH y.lp (ent4 R c).log, winH y.wp (ent4 R c).win, admH y.ap (ent4 R c).adm, rdsH y.rp (ent4 R c).rds, slH rdT 34 ga rows.length gc (flat rdC rows), r.h frT, outH b S] _
 have q0 := ok4.win.cap0
 refine CS ?_
 refine VC.meetS (σ := Unit) (fun _ => [(0, pV p), (2, sendF b), (6, .slice r.addr r.xs.length r.cap), (7, .slice ga rows.length gc)])
  (fun _ => [pt p (repCs (ent5 R c) y) repT, slH memT 2 y.a c.ms.length y.c (flat memC c.ms), logH y.lp (ent5 R c).log, winH y.wp (ent5 R c).win, admH y.ap (ent5 R c).adm, rdsH y.rp (ent5 R c).rds, slH rdT 34 ga rows.length gc (flat rdC rows), r.h frT, outH b S]) (fun _ => True) ?_ ?_
 ·refine xdy ?_
  refine CC Z (fun h1 => ?_) (fun h1 => CK ?_)
  ·have e5 : ent5 R c = { ent4 R c with start := (ent4 R c).win.last } := by rw [ent5, if_pos h1]
   refine xdy ?_
   refine VG (VV (fun Fr w hF hs hS => Win.last_spec Fr w (hS.blk 3 Z) q0) Z ?_)
   refine xdy ?_
   refine VG (VO.st 0 (cs' := repCs { ent4 R c with start := (ent4 R c).win.last } y) Z Z Z Z (by show 13 < 17; omega) Z Z ?_)
   refine xdy ?_
   refine ⟨(), trivial, sbZ, ?_⟩
   dsimp only
   rw [e5]; exact ER
  ·have e5 : ent5 R c = ent4 R c := by rw [ent5, if_neg ybb]
   refine ⟨(), trivial, sbZ, ?_⟩
   dsimp only
   rw [e5]; exact ER
 rintro _ -
 have hch : (ent5 R c).ch = c := by unfold ent5; split <;> rfl
 have hhp : ∀ S' : List SndM, [pt p (repCs (ent5 R c) y) repT, slH memT 2 y.a c.ms.length y.c (flat memC c.ms), logH y.lp (ent5 R c).log, winH y.wp (ent5 R c).win, admH y.ap (ent5 R c).adm, rdsH y.rp (ent5 R c).rds, slH rdT 34 ga rows.length gc (flat rdC rows), r.h frT, outH b S']
  = [pt p (repCs (ent5 R c) y) repT, slH memT 2 y.a (ent5 R c).ch.ms.length y.c (flat memC (ent5 R c).ch.ms), logH y.lp (ent5 R c).log, winH y.wp (ent5 R c).win, admH y.ap (ent5 R c).adm, rdsH y.rp (ent5 R c).rds, slH rdT 34 ga rows.length gc (flat rdC rows), r.h frT, outH b S'] := fun S' => by rw [hch]
 rw [hhp]
 generalize hR5 : ent5 R c = R5 at *
 refine xdy ?_
 refine VC.loop (σ := Nat) (fun i => [(0, pV p), (2, sendF b), (7, .slice ga rows.length gc), (108, .slice r.addr r.xs.length r.cap), (109, .int .i64 r.xs.length), (110, .int .i64 i)])
  (fun i => [pt p (repCs R5 y) repT, slH memT 2 y.a R5.ch.ms.length y.c (flat memC R5.ch.ms), logH y.lp R5.log, winH y.wp R5.win, admH y.ap R5.adm, rdsH y.rp R5.rds, slH rdT 34 ga rows.length gc (flat rdC rows), r.h frT, outH b (S ++ refs c.epoch ((R.adm.sch.goneM maxI).take i) 9)])
  (fun i => i ≤ r.xs.length) (fun i => r.xs.length - i) 0
  (Nat.zero_le _) sbZ (by rw [List.take_zero, show refs c.epoch [] 9 = [] from rfl, List.append_nil]; exact ER) ?_
 intro i hi
 have hxl : r.xs.length = (R.adm.sch.goneM maxI).length := by rw [← hrx]; simp
 refine xdy ?_
 refine CP Z (fun h1 => CK ?_) (fun h1 => CX ?_)
 ·have hi2 : i < r.xs.length := by omega
  obtain ⟨g, hg⟩ : ∃ g, r.xs[i]? = some g := ⟨_, GE hi2⟩
  have hgg : (R.adm.sch.goneM maxI)[i]? = some g.1 := by rw [← hrx, List.getElem?_map, hg]; rfl
  have hcg := hgc g.1 (ME hgg)
  have hc6 := ok.wf.c1
  obtain ⟨gb, go, r1, r2, hrd⟩ := rok.ld (t := frT) hg rfl
  rw [r2]
  refine zpu ?_
  refine VG (VD Z Z ((hrd 7 Z).1 _ Z Z) ?_)
  refine VG (VO.alloc Z fun tb => ?_)
  refine VG (VT (vs := fmc g) 0 Z Z Z Z (NR _) Z Z Z ?_)
  refine xdy ?_
  refine VG (VL 0 (fmc g) Z Z Z Z ?_)
  refine VG (VQ 9 Z (fun Fr w hF hs hS => refuse_spec Fr w (hS.blk 1 Z) ybh g.1 g.2 hcg.1.1 (by have := hcg.1.2; omega) 9) Z (ψ := fun v H => v = .tuple #[] ∧ H = outH b (S ++ refs c.epoch ((R.adm.sch.goneM maxI).take i) 9 ++ [(32 + g.1.client, refuseF c.epoch g.1 9)])) ybm ?_)
  rintro _ _ ⟨rfl, rfl⟩
  refine zpg ?_
  refine ⟨i + 1, hi2, by dsimp only; omega, sbZ, ?_⟩
  dsimp only
  rw [show refs c.epoch ((R.adm.sch.goneM maxI).take (i + 1)) 9 = refs c.epoch ((R.adm.sch.goneM maxI).take i) 9 ++ [(32 + g.1.client, refuseF c.epoch g.1 9)] by rw [List.take_add_one, hgg]; simp [refs], ← List.append_assoc]
  exact (pkZ [1, 1, 1, 1, 1, 1, 1, 1, 1]).ent
 obtain rfl : i = r.xs.length := by omega
 rw [hxl, List.take_length]
 have hrl1 : (refs c.epoch (R.adm.sch.goneM maxI) 9).length ≤ 64 := by rw [refs, List.length_map]; exact hg64
 generalize hS1 : S ++ refs c.epoch (R.adm.sch.goneM maxI) 9 = S1
 have hS1l : S1.length ≤ 800064 := by rw [← hS1, List.length_append]; omega
 refine VC.opn 6 Z (HOpn.rl rdT ga gc rows rdC_len) ?_
 rintro q ⟨qok, hqv, hqx⟩
 show VC _ _ _ [q.h rdT, pt p (repCs R5 y) repT, slH memT 2 y.a R5.ch.ms.length y.c (flat memC R5.ch.ms), logH y.lp R5.log, winH y.wp R5.win, admH y.ap R5.adm, rdsH y.rp R5.rds, r.h frT, outH b S1] _
 refine xdy ?_
 have hexp : ∀ i, i ≤ rows.length → ((rows.take i).map fun y => y.1.f).length = i := fun i hi => by simp; omega
 refine VC.loop (σ := Nat) (fun i => [(0, pV p), (2, sendF b), (119, .slice ga rows.length gc), (120, .int .i64 rows.length), (121, .int .i64 i)])
  (fun i => [q.h rdT, pt p (repCs R5 y) repT, slH memT 2 y.a R5.ch.ms.length y.c (flat memC R5.ch.ms), logH y.lp R5.log, winH y.wp R5.win, admH y.ap R5.adm, rdsH y.rp R5.rds, outH b (S1 ++ refs c.epoch ((rows.take i).map fun y => y.1.f) 9)])
  (fun i => i ≤ rows.length) (fun i => rows.length - i) 0
  (Nat.zero_le _) sbZ (by
   rw [List.take_zero, show refs c.epoch (List.map (fun y => y.1.f) ([] : List RdR)) 9 = [] from rfl, List.append_nil]
   exact (pkZ [0, 0, 0, 0, 0, 0, 0, 1]).ent) ?_
 intro i hi
 refine xdy ?_
 refine CP Z (fun h1 => CK ?_) (fun h1 => CX ?_)
 ·have hi2 : i < rows.length := by omega
  obtain ⟨g, hg⟩ : ∃ g, rows[i]? = some g := ⟨_, GE hi2⟩
  have hgm : g.1 ∈ R.rds.l := by
   rw [← hrows]
   exact List.mem_map.2 ⟨g, ME hg, Z⟩
  have hcg := ok.rcl g.1 hgm
  obtain ⟨gb, go, r1, r2, hrd⟩ := qok.ld (t := rdT) (hqx ▸ hg) rfl
  obtain rfl : ga = some ⟨gb, go, none⟩ := by rw [RL.v, r2, hqx] at hqv; injection hqv with e1; exact e1.symm
  refine zpu ?_
  refine xkg ?_
  refine VG (VO.alloc Z fun tb => ?_)
  refine xkh ?_
  refine xdy ?_
  refine VG (VL 0 (fgC g.1.f g.2) Z Z Z Z ?_)
  refine VG (VQ 8 Z (fun Fr w hF hs hS => refuse_spec Fr w (hS.blk 2 Z) (by rw [List.length_append, refs, List.length_map, hexp i yd]; omega) g.1.f g.2 hcg.1 yd 9) Z (ψ := fun v H => v = .tuple #[] ∧ H = outH b (S1 ++ refs c.epoch ((rows.take i).map fun y => y.1.f) 9 ++ [(32 + g.1.f.client, refuseF c.epoch g.1.f 9)])) ybm ?_)
  rintro _ _ ⟨rfl, rfl⟩
  refine zpg ?_
  refine ⟨i + 1, hi2, by dsimp only; omega, sbZ, ?_⟩
  dsimp only
  rw [show refs c.epoch ((rows.take (i + 1)).map fun y => y.1.f) 9 = refs c.epoch ((rows.take i).map fun y => y.1.f) 9 ++ [(32 + g.1.f.client, refuseF c.epoch g.1.f 9)] by rw [List.take_add_one, hg]; simp [refs], ← List.append_assoc]
  exact (pkZ [1, 1, 1, 1, 1, 1, 1, 1]).ent
 obtain rfl : i = rows.length := by omega
 rw [List.take_length]
 have hes : S1 ++ refs c.epoch (rows.map fun y => y.1.f) 9 = S ++ entG R c := by
  rw [← hS1, entG, ← hrows, List.map_map, List.append_assoc]; rfl
 have hel : (S ++ entG R c).length ≤ 800080 := by rw [← hes, List.length_append, refs, List.length_map, List.length_map]; omega
 rw [hes]
 refine CN (L' := [repH p R5, outH b (S ++ entG R c)]) (Imp.rep (R := R5) y (pkZ [1, 1, 1, 1, 1, 1, 1])).ent ?_
 generalize hS2 : S ++ entG R c = S2 at *
 refine xdy ?_
 refine VG (VK (Lc := [repH p R5, outH b S2]) (Lr := []) (fun Fr w hF hs hS => finish_spec Fr w ok5 yd) Z Z ?_)
 rintro _ _ ⟨rfl, rfl⟩
 have fl := finishM_len ok5
 have okf := finishR_ok ok5
 refine xdy ?_
 refine VO.opn 0 Z (HOpn.rep p R5.finishR) ?_
 rintro y2 -
 show VO _ _ _ _ _ (repO p R5.finishR y2 b (S2 ++ R5.finishM)) _
 unfold repO
 refine xdy ?_
 refine VG (VQ 6 Z (fun Fr w hF hs hS => greet_spec Fr w (RepIn.pcs hS 0 Z Z Z Z Z Z) okf.ch okf.win ybf) Z (ψ := fun v H => v = .tuple #[] ∧ H = outH b (S2 ++ R5.finishM ++ R5.finishR.greetM)) yz ?_)
 rintro _ _ ⟨rfl, rfl⟩
 have gl : R5.finishR.greetM.length ≤ 1 := by unfold RepM.greetM; split <;> simp
 refine xdy ?_
 refine VG (VQ 6 Z (fun Fr w hF hs hS => tellBase_spec Fr w (RepIn.pcs hS 0 Z Z Z Z Z Z) okf.ch (by rw [List.length_append, List.length_append]; omega)) Z (ψ := fun v H => v = .tuple #[] ∧ H = outH b (S2 ++ R5.finishM ++ R5.finishR.greetM ++ R5.finishR.baseM)) yz ?_)
 rintro _ _ ⟨rfl, rfl⟩
 have bl : R5.finishR.baseM.length ≤ 1 := by unfold RepM.baseM; split <;> simp
 refine xdy ?_
 refine VG (VQ 6 Z (fun Fr w hF hs hS => tellMaster_spec Fr w (hS.blk 0 Z) (by rw [List.length_append, List.length_append, List.length_append]; omega)) Z (ψ := fun v H => v = .tuple #[] ∧ H = outH b (S2 ++ R5.finishM ++ R5.finishR.greetM ++ R5.finishR.baseM ++ R5.finishR.masterM)) yz ?_)
 rintro _ _ ⟨rfl, rfl⟩
 refine xdy ?_
 refine Ret.void Z (repO_shut (R := R5.finishR) (x := y2)).ent ⟨rfl, ?_⟩
 simp only [enterR, hR5, ← hS2, List.append_assoc]
end
end Rep
namespace Rep
open Go Vg T Api Kv Ch Lg Rd Win Adm Sched Conf
attribute [local irreducible] VO VC VA
def firstMs (n : Nat) : List MemM := (List.range n).map fun (i : Nat) => ((i : Int), (1 : Int))
theorem firstMs_len (n : Nat) : (firstMs n).length = n := by simp [firstMs]
theorem firstMs_succ (n : Nat) : firstMs (n + 1) = firstMs n ++ [((n : Int), (1 : Int))] := by simp [firstMs, List.range_succ]
def firstC (c : ConfM) : ChM := ⟨1, firstMs c.chain.toNat, -1⟩
def chZ : ChM := ⟨0, [], 0⟩
theorem conf_bounds {c : ConfM} (h : c = fitM c) : (1 ≤ c.nodes ∧ c.nodes ≤ 6) ∧ (1 ≤ c.chain ∧ c.chain ≤ c.nodes) ∧ (1 ≤ c.window ∧ c.window ≤ 16) ∧ (1 ≤ c.reads ∧ c.reads ≤ 16) ∧ (1 ≤ c.clients ∧ c.clients ≤ 6) := by
 have e1 : c.nodes = near c.nodes 1 6 := congrArg ConfM.nodes h
 have e2 : c.chain = near c.chain 1 (near c.nodes 1 6) := congrArg ConfM.chain h
 have e3 : c.window = near c.window 1 16 := congrArg ConfM.window h
 have e4 : c.reads = near c.reads 1 16 := congrArg ConfM.reads h
 have e5 : c.clients = near c.clients 1 6 := congrArg ConfM.clients h
 have n1 := near_in (x := c.nodes) (lo := 1) (hi := 6) yy
 have n2 := near_in (x := c.chain) (lo := 1) (hi := near c.nodes 1 6) n1.1
 have n3 := near_in (x := c.window) (lo := 1) (hi := 16) yy
 have n4 := near_in (x := c.reads) (lo := 1) (hi := 16) yy
 have n5 := near_in (x := c.clients) (lo := 1) (hi := 6) yy
 omega
theorem first_spec (c : ConfM) (a : Option Addr) (cap : Nat) (hq : IntsIn Fr w a c.qs) (ha : AdOk a) (hcap : c.qs.length ≤ cap) : Tri Tryz.prog 49 [.agg (c.cells a cap).toArray] Fr w []
  (fun v L => if c = fitM c then ∃ a' c', v = .tuple #[.agg ((firstC c).cells a' c').toArray, .int .i64 0] ∧ L = [slH memT 2 a' (firstC c).ms.length c' (flat memC (firstC c).ms)] else v = .tuple #[.agg (chZ.cells none 0).toArray, .int .i64 2] ∧ L = []) := by
 refine TF 27 Tryz.func49 Z ym tabOk Z Z ?_
 refine CS (CG (VG (VB (vs := c.cells a cap) Z fun x => VG (VO.alloc Z fun d => ?_))))
 refine xgb ?_
 refine xgj ?_
 refine VG (VV (fun Fr w hF hs _ => Conf.check_spec Fr w c a cap (ints_of hq hF hs) ha hcap) Z ?_)
 refine xdy ?_
 refine VC.condNE Z (fun h1 => ?_) (fun h1 => CK ?_)
 ·have hc : ¬ c = fitM c := fun e => h1 yba
  have hc2 : checkM c = 2 := by rw [checkM, if_neg hc]
  refine xdy ?_
  refine xkl ?_
  refine xdy ?_
  refine xkm ?_
  refine xdy ?_
  refine xgy ?_
  rw [if_neg hc, hc2]; exact ⟨rfl, rfl⟩
 have hc : c = fitM c := by
  apply Decidable.byContradiction
  intro hc
  rw [checkM, if_neg hc] at h1
  cases h1
 have hb := conf_bounds hc
 refine xdy ?_
 refine VG (VI (LB (pv := [(0, .int .i64 1), (2, .int .i64 (-1))]) [.int .i64 1, .slice none 0 0, .int .i64 (-1)] Z Z Z ym Z) ?_)
 refine xdy ?_
 refine VG (VT (vs := [.int .i64 1, .slice none 0 0, .int .i64 (-1)]) (cs' := [.int .i64 1, .slice none 0 0, .int .i64 (-1)]) 0 Z Z Z Z (NR _) Z Z Z ?_)
 refine xgb ?_
 refine VC.loop (σ := Nat × Option Addr × Nat) (fun y => [(2, pV d), (14, .int .i64 c.chain), (15, .int .i64 y.1)])
  (fun y => [slH memT 2 y.2.1 y.1 y.2.2 (flat memC (firstMs y.1)), pt d [.int .i64 1, .slice y.2.1 y.1 y.2.2, .int .i64 (-1)] chT])
  (fun y => (y.1 : Int) ≤ c.chain) (fun y => c.chain.toNat - y.1) (0, none, 0)
  ybn sbZ (Imp.slNil (IP 0 rfl Imp.nil)).ent ?_
 rintro ⟨i, a', c'⟩ hi
 dsimp only at hi ⊢
 refine xdy ?_
 refine CP Z (fun h1 => CK ?_) (fun h1 => CX ?_)
 ·refine xgb ?_
  refine xkn ?_
  refine VG (VO.buildSlice (n := 1) (pv := [(0, .agg (memC ((i : Int), 1)).toArray)]) (memC ((i : Int), 1)) Z Z Z Z yy (fill_one Z Z Z) fun nb => ?_)
  refine VG (VO.append (m := 1) (news := memC ((i : Int), 1)) 1 Z Z Z Z Z Z Z (RdRow.pt 0 Z Z Z) Z (small_bytes (k := 101) yd yy) yd fun a2 c2 hc2 => ?_)
  refine xdy ?_
  refine VG (VO.st 2 (cs' := [.int .i64 1, .slice a2 (i + 1) c2, .int .i64 (-1)]) Z Z Z Z yaj Z Z ?_)
  refine zpg ?_
  refine ⟨(i + 1, a2, c2), by dsimp only; omega, by dsimp only; omega, sbZ, ?_⟩
  dsimp only
  rw [firstMs_succ, flat_append, flat_cons, flat_nil, List.append_nil]
  exact (pkZ [0, 1]).ent
 ·obtain rfl : i = c.chain.toNat := by omega
  have e0 : (firstC c).ms.length = c.chain.toNat := firstMs_len _
  have e1 : (firstC c).cells a' c' = [.int .i64 1, .slice a' c.chain.toNat c', .int .i64 (-1)] := by rw [ChM.cells, e0]; rfl
  refine xdy ?_
  refine VG (VL 1 [.int .i64 1, .slice a' c.chain.toNat c', .int .i64 (-1)] Z Z Z Z ?_)
  refine xko ?_
  refine xdy ?_
  refine CR (Ret.cellTmp 2 3 Z Z Z (RdL.many 1 Z Z) Z (IP 0 Z Imp.nil).ent ?_)
  rw [if_pos hc, e0]; exact ⟨a', c', by rw [e1]; rfl, rfl⟩
def newR0 (c : ConfM) (id : Int) : RepM := { id := id, clients := c.clients, cap := c.window, most := c.reads, ch := chZ, since := 0, whole := false, log := [], win := WinM.new c.window, adm := newA c, rds := RdsM.new c.reads, start := -1, base := -1, linked := false, have_ := 0 }
def newR (c : ConfM) (id : Int) (blank : Bool) : RepM :=
 if blank then newR0 c id else if (sinceOf (firstC c) id).2 then { newR0 c id with ch := firstC c, since := (sinceOf (firstC c) id).1, whole := true, start := 0 } else { newR0 c id with ch := firstC c }
def newOkB (c : ConfM) (id : Int) : Prop := c = fitM c ∧ 0 ≤ id ∧ id < c.nodes
instance (c : ConfM) (id : Int) : Decidable (newOkB c id) := by unfold newOkB; infer_instance
theorem newR0_ok {c : ConfM} (h : c = fitM c) (id : Int) {C : ChM} (hC : ChS C) (s t : Int) (wh : Bool) : ({ newR0 c id with ch := C, since := s, whole := wh, start := t } : RepM).Ok := by
 have hb := conf_bounds h
 refine ⟨hC, WinM.new_ok hb.2.2.1.1 hb.2.2.1.2, Z, fun e he => absurd he List.not_mem_nil, fun e he => absurd he List.not_mem_nil, hb.2.2.2.1.1, hb.2.2.2.1.2, ?_, Int.le_refl _, (by decide : (0 : Int) ≤ 100000000), fun e he => absurd he List.not_mem_nil, newA_calls c, newA_wf h⟩
 show (0 : Int) ≤ c.reads; omega
theorem firstC_s {c : ConfM} (h : c = fitM c) : ChS (firstC c) := ⟨by have hb := conf_bounds h; show (firstMs _).length ≤ 1000; rw [firstMs_len]; omega⟩
theorem newR_ok {c : ConfM} (h : c = fitM c) (id : Int) (blank : Bool) : (newR c id blank).Ok := by
 unfold newR
 split
 ·exact newR0_ok h id ⟨by decide⟩ 0 (-1) false
 split
 ·exact newR0_ok h id (firstC_s h) _ 0 true
 ·exact newR0_ok h id (firstC_s h) 0 (-1) false
def repV (R : RepM) (a : Option Addr) (c : Nat) (l w d r : Value) : List Value := [.int .i64 R.id, .int .i64 R.clients, .int .i64 R.cap, .int .i64 R.most, .int .i64 R.ch.epoch, .slice a R.ch.ms.length c, .int .i64 R.ch.drain, .int .i64 R.since, .bool R.whole,
 l, w, d, r, .int .i64 R.start, .int .i64 R.base, .bool R.linked, .int .i64 R.have_]
abbrev ptV (b : Nat) : Value := .pointer (some ⟨b, 0, none⟩)
theorem new_spec (c : ConfM) (a : Option Addr) (cap : Nat) (hq : IntsIn Fr w a c.qs) (ha : AdOk a) (hcap : c.qs.length ≤ cap) (id : Int) (blank : Bool) : Tri Tryz.prog 14 [.agg (c.cells a cap).toArray, .int .i64 id, .bool blank] Fr w []
  (fun v L => if newOkB c id then ∃ p, v = .tuple #[.pointer (some ⟨p, 0, none⟩), .int .i64 0] ∧ L = [repH p (newR c id blank)] else v = .tuple #[.pointer none, .int .i64 2] ∧ L = []) := by
 refine TF 93 Tryz.func14 Z ym tabOk Z Z ?_
 refine CS (CG (VG (VB (vs := c.cells a cap) Z fun x => ?_)))
 refine zpj ?_
 refine VG (VK (Lc := []) (fun Fr w hF hs _ => first_spec Fr w c a cap (ints_of hq hF hs) ha hcap) Z Z ?_)
 intro v L hv
 by_cases hc : c = fitM c
 rotate_left
 ·rw [if_neg hc] at hv
  obtain ⟨rfl, rfl⟩ := hv
  have hno : ¬ newOkB c id := fun h => hc h.1
  refine xdy ?_
  refine VG (VO.alloc Z fun d => ?_)
  refine xkm ?_
  refine xdy ?_
  refine xfx ?_
  refine xel ?_
  refine xkp ?_
  refine zpl ?_
  refine xkq ?_
  rw [if_neg hno]; exact ⟨rfl, rfl⟩
 rw [if_pos hc] at hv
 obtain ⟨a1, c1, rfl, rfl⟩ := hv
 have hb := conf_bounds hc
 have hfl : (firstC c).ms.length ≤ 6 := by show (firstMs _).length ≤ 6; rw [firstMs_len]; omega
 refine xdy ?_
 refine VG (VO.alloc Z fun d => ?_)
 refine VG (VT (vs := (firstC c).cells a1 c1) (cs' := (firstC c).cells a1 c1) 0 Z Z Z Z (NR _) Z Z Z ?_)
 refine xdy ?_
 refine VG (VY 20 false Z Z ?_)
 refine xel ?_
 by_cases h0 : id < 0
 ·have hno : ¬ newOkB c id := fun h => by have := h.2.1; omega
  refine VG (VY 24 true Z (DT h0) ?_)
  refine zpl ?_
  refine xkq ?_
  rw [if_neg hno]; exact ⟨rfl, rfl⟩
 refine VG (VY 24 false Z (DF h0) ?_)
 refine xgd ?_
 refine CP Z (fun h1 => ?_) (fun h1 => CK ?_)
 ·have hno : ¬ newOkB c id := fun h => by have := h.2.2; omega
  refine xdy ?_
  refine xkq ?_
  rw [if_neg hno]; exact ⟨rfl, rfl⟩
 have hyes : newOkB c id := ⟨hc, by omega, by omega⟩
 show VC _ _ _ [pt d ((firstC c).cells a1 c1) chT, slH memT 2 a1 (firstC c).ms.length c1 (flat memC (firstC c).ms), pt x (c.cells a cap) _] _
 refine xgc ?_
 refine VG (VI (LB (pv := [(0, .int .i64 id), (1, .int .i64 c.clients), (2, .int .i64 c.window), (3, .int .i64 c.reads), (11, .int .i64 (-1)), (12, .int .i64 (-1))]) (repV (newR0 c id) none 0 (.pointer none) (.pointer none) (.pointer none) (.pointer none)) Z Z Z ym Z) ?_)
 refine VG (VB (vs := repV (newR0 c id) none 0 (.pointer none) (.pointer none) (.pointer none) (.pointer none)) Z fun p => ?_)
 refine xdy ?_
 refine VG (VK (Lc := []) (fun Fr w _ _ _ => Lg.new_spec Fr w) Z Z ?_)
 rintro _ _ ⟨lp, rfl, rfl⟩
 refine xdy ?_
 refine VG (VO.st 1 (cs' := repV (newR0 c id) none 0 (ptV lp) (.pointer none) (.pointer none) (.pointer none)) Z Z Z Z (by show 9 < 17; omega) Z Z ?_)
 refine xfe ?_
 refine VG (VK (Lc := []) (fun Fr w _ _ _ => Win.new_spec Fr w hb.2.2.1.1 hb.2.2.1.2) Z Z ?_)
 rintro _ _ ⟨wp, rfl, rfl⟩
 refine xdy ?_
 refine VG (VO.st 2 (cs' := repV (newR0 c id) none 0 (ptV lp) (ptV wp) (.pointer none) (.pointer none)) Z Z Z Z (by show 10 < 17; omega) Z Z ?_)
 refine xdy ?_
 refine VG (VL 5 (c.cells a cap) Z Z Z Z ?_)
 refine VG (VK (Lc := []) (fun Fr w hF hs _ => Adm.new_spec Fr w c a cap (ints_of hq hF hs) ha hcap) Z Z ?_)
 intro v L hv
 rw [if_pos hc] at hv
 obtain ⟨ap, rfl, rfl⟩ := hv
 refine xdy ?_
 refine VG (VO.st 3 (cs' := repV (newR0 c id) none 0 (ptV lp) (ptV wp) (ptV ap) (.pointer none)) Z Z Z Z (by show 11 < 17; omega) Z Z ?_)
 refine xjv ?_
 refine VG (VK (Lc := []) (fun Fr w _ _ _ => Rd.new_spec Fr w hb.2.2.2.1.1 hb.2.2.2.1.2) Z Z ?_)
 rintro _ _ ⟨rp, rfl, rfl⟩
 refine xdy ?_
 refine VG (VO.st 4 (cs' := repCs (newR0 c id) ⟨none, 0, lp, wp, ap, rp⟩) Z Z Z Z (by show 12 < 17; omega) Z Z ?_)
 refine xdy ?_
 refine CN (L' := [pt p (repCs (newR0 c id) ⟨none, 0, lp, wp, ap, rp⟩) repT, logH lp [], winH wp (WinM.new c.window), admH ap (newA c), rdsH rp (RdsM.new c.reads), pt d ((firstC c).cells a1 c1) chT, slH memT 2 a1 (firstC c).ms.length c1 (flat memC (firstC c).ms)]) (pkZ [4, 3, 2, 1, 0, 0, 0]).ent ?_
 refine CC Z (fun hbl => ?_) (fun hbl => CK ?_)
 ·refine xdy ?_
  refine CR (Ret.tmp2 6 7 Z Z Z (L' := [repH p (newR c id blank)]) ?_ ybo)
  rw [show newR c id blank = newR0 c id by rw [newR, if_pos hbl]]
  exact (Imp.rep (R := newR0 c id) ⟨none, 0, lp, wp, ap, rp⟩ (IP 0 Z (Imp.slNil (pkZ [0, 0, 0, 0])))).ent
 refine xdy ?_
 refine VG (VL 5 ((firstC c).cells a1 c1) Z Z Z Z ?_)
 refine xdy ?_
 refine VG (VT (vs := (firstC c).cells a1 c1) (cs' := repCs { newR0 c id with ch := firstC c } ⟨a1, c1, lp, wp, ap, rp⟩) 0 Z Z Z Z (by show 4 + 3 ≤ 17; omega) Z Z Z ?_)
 refine xdy ?_
 refine VG (VL 5 ((firstC c).cells a1 c1) Z Z Z Z ?_)
 refine xdy ?_
 refine VG (VV (fun Fr w hF hs hS => Ch.since_spec Fr w (RwIn.slH memC_len (hS.at_ 6 Z)) yd id) Z ?_)
 refine xdy ?_
 refine VC.meetS (σ := Unit) (fun _ => [(10, ptV p)]) (fun _ => [repH p (newR c id blank)]) (fun _ => True) ?_ ?_
 ·refine CC Z (fun hs => ?_) (fun hs => CK ?_)
  ·refine xdy ?_
   refine VG (VO.st 0 (cs' := repCs { newR0 c id with ch := firstC c, since := (sinceOf (firstC c) id).1 } ⟨a1, c1, lp, wp, ap, rp⟩) Z Z Z Z (by show 7 < 17; omega) Z Z ?_)
   refine xdy ?_
   refine VG (VO.st 0 (cs' := repCs { newR0 c id with ch := firstC c, since := (sinceOf (firstC c) id).1, whole := true } ⟨a1, c1, lp, wp, ap, rp⟩) Z Z Z Z ybl Z Z ?_)
   refine xdy ?_
   refine VG (VO.st 0 (cs' := repCs { newR0 c id with ch := firstC c, since := (sinceOf (firstC c) id).1, whole := true, start := 0 } ⟨a1, c1, lp, wp, ap, rp⟩) Z Z Z Z (by show 13 < 17; omega) Z Z ?_)
   refine xdy ?_
   refine ⟨(), trivial, sbZ, ?_⟩
   dsimp only
   rw [show newR c id blank = { newR0 c id with ch := firstC c, since := (sinceOf (firstC c) id).1, whole := true, start := 0 } by rw [newR, if_neg (by rw [hbl]; simp), if_pos hs]]
   exact (Imp.rep (R := { newR0 c id with ch := firstC c, since := (sinceOf (firstC c) id).1, whole := true, start := 0 }) ⟨a1, c1, lp, wp, ap, rp⟩ (pkZ [0, 5, 0, 0, 0, 0])).ent
  ·refine ⟨(), trivial, sbZ, ?_⟩
   dsimp only
   rw [show newR c id blank = { newR0 c id with ch := firstC c } by rw [newR, if_neg (by rw [hbl]; simp), if_neg (by rw [hs]; simp)]]
   exact (Imp.rep (R := { newR0 c id with ch := firstC c }) ⟨a1, c1, lp, wp, ap, rp⟩ (pkZ [0, 5, 0, 0, 0, 0])).ent
 rintro _ -
 refine xdy ?_
 exact CR (Ret.tmp2 6 7 Z Z Z ER ybo)
end Rep
namespace Rep
open Go Vg T Api Kv Ch Lg Rd Win Adm Sched Conf
attribute [local irreducible] VO VC VA
structure RepM.Fit (R : RepM) : Prop where
 ok : R.Ok
 most : R.most = R.rds.cap
 cap0 : 1 ≤ R.cap
 cap1 : R.cap ≤ 16
 cl : R.clients ≤ 6
theorem newR_fit {c : ConfM} (h : c = fitM c) (id : Int) (blank : Bool) : (newR c id blank).Fit := by
 have hb := conf_bounds h
 have ho := newR_ok h id blank
 unfold newR at ho ⊢
 split
 ·rename_i h1; rw [if_pos h1] at ho; exact ⟨ho, rfl, hb.2.2.1.1, hb.2.2.1.2, hb.2.2.2.2.2⟩
 ·rename_i h1; rw [if_neg h1] at ho
  split
  ·rename_i h2; rw [if_pos h2] at ho; exact ⟨ho, rfl, hb.2.2.1.1, hb.2.2.1.2, hb.2.2.2.2.2⟩
  ·rename_i h2; rw [if_neg h2] at ho; exact ⟨ho, rfl, hb.2.2.1.1, hb.2.2.1.2, hb.2.2.2.2.2⟩
def readsB (o : OpM) : Bool := decide (o.kind = 1) && decide (opCheck o = 0)
def frCh (f : FrameM) (ms : List MemM) : ChM := ⟨f.cepoch, ms, f.drain⟩
def sureR (R : RepM) (i : Int) : RepM := { R with rds := { R.rds with l := R.rds.l.filter (surely i) } }
def sureS (R : RepM) (i : Int) : List SndM := (R.rds.l.filter fun y => !surely i y).map fun y => (32 + y.f.client, replyF y.f.client y.f.seq y.f.try_ y.r)
def baseR (R : RepM) (i : Int) : RepM := { R with base := max i (-1) }
def takeR (R : RepM) (from_ : Int) (f : FrameM) (ms : List MemM) (now : Int) : RepM × List SndM :=
 if f.kind = 1 then (if f.client < 0 then (R, []) else if R.clients ≤ f.client then (R, []) else if readsB f.op = true then readR R f now else updateR R f now)
 else if f.kind = 8 then (if (from_ = 16 ∧ chE (frCh f ms) = 0) ∧ R.ch.epoch < f.cepoch then enterR R (frCh f ms) else (R, []))
 else if f.kind = 4 then (if R.knownB f = true ∧ isNodeB from_ R.prevM = true then forwardR R f.entry else (R, []))
 else if f.kind = 5 then (if R.knownB f = true ∧ isNodeB from_ R.nextM = true then ackR R f else (R, []))
 else if f.kind = 6 then (if R.knownB f = true ∧ isNodeB from_ R.prevM = true then ((baseR R f.index).becomeR, (baseR R f.index).becomeM) else (R, []))
 else if f.kind = 10 then (if R.knownB f = true ∧ from_ = 16 then (sureR R f.index, sureS R f.index) else (R, []))
 else (R, [])
theorem judge_adm (R : RepM) (f : FrameM) (now : Int) : (judgeM R f now).2.2 = R.adm ∨ (judgeM R f now).2.2 = (R.adm.offerM f now).2 := by
 unfold judgeM
 repeat' split
 all_goals first | exact .inl rfl | exact .inr rfl
theorem updateR_ok {R : RepM} (h : R.Ok) (f : FrameM) (now : Int) : (updateR R f now).1.Ok := by
 have hj : (judgeM R f now).2.2.Calls ∧ (judgeM R f now).2.2.Wf := by
  rcases judge_adm R f now with e | e
  ·rw [e]; exact ⟨h.calls, h.wf⟩
  ·rw [e]; exact ⟨offer_calls h.calls f now, offer_wf h.wf f now⟩
 unfold updateR
 split
 ·exact adm_ok h hj.1 hj.2
 split
 ·exact adm_ok h hj.1 hj.2
 split
 ·exact adm_ok h (barM_calls hj.1 _ _ _) (hj.2.barM _ _ _)
 ·exact adm_ok h hj.1 hj.2
theorem readR_ok {R : RepM} (h : R.Ok) (hr : R.rds.last < 100000000) (f : FrameM) (now : Int) (h0 : 0 ≤ f.client) (h1 : f.client ≤ 1000) : (readR R f now).1.Ok := by
 unfold readR
 split
 ·exact h
 ·have e : ({ R with rds := R.rds.put f (kvLook (logRun R.log).1 f.op.key R.log.length) } : RepM).Ok := by
   have a0 := h.rc0; have a1 := h.rn0; have a2 := h.rl
   unfold RdsM.put
   split
   ·rename_i hl
    exact ⟨h.ch, h.win, h.last, h.logc, h.logi, h.rc0, h.rc1, by show ((R.rds.l ++ [_]).length : Int) ≤ R.rds.cap; rw [List.length_append]; simp; omega, by show 0 ≤ R.rds.last + 1; omega, by show R.rds.last + 1 ≤ _; omega, fun y hy => by
     rcases List.mem_append.1 hy with h2 | h2
     ·exact h.rcl y h2
     ·rw [List.mem_singleton.1 h2]; exact ⟨h0, h1⟩, h.calls, h.wf⟩
   ·exact h
  exact e
theorem sureR_ok {R : RepM} (h : R.Ok) (i : Int) : (sureR R i).Ok := ⟨h.ch, h.win, h.last, h.logc, h.logi, h.rc0, h.rc1, by
 have := h.rl; have h2 := List.length_filter_le (surely i) R.rds.l
 show ((R.rds.l.filter (surely i)).length : Int) ≤ R.rds.cap; omega, h.rn0, h.rn1, fun y hy => h.rcl y (List.mem_filter.1 hy).1, h.calls, h.wf⟩
theorem baseR_ok {R : RepM} (h : R.Ok) (i : Int) : (baseR R i).Ok := ⟨h.ch, h.win, h.last, h.logc, h.logi, h.rc0, h.rc1, h.rl, h.rn0, h.rn1, h.rcl, h.calls, h.wf⟩
theorem forwardR_ok' {R : RepM} (h : R.Ok) (e : EntryM) : (forwardR R e).1.Ok := by
 unfold forwardR
 split
 ·rename_i h1; exact becomeR_ok (finishR_ok (pushE_ok h h1.2 (fwd_room h1.1)))
 ·exact h
theorem chE_len {c : ChM} (h : chE c = 0) : c.ms.length ≤ 6 := by
 have : chOk c = true := by
  unfold chE at h
  by_cases hc : chOk c = true
  ·exact hc
  ·rw [if_neg hc] at h; cases h
 simp only [chOk, headOk, Bool.and_eq_true, decide_eq_true_eq] at this
 omega
theorem takeR_ok {R : RepM} (h : R.Fit) (hr : R.rds.last < 100000000) (from_ : Int) (f : FrameM) (ms : List MemM) (now : Int) : (takeR R from_ f ms now).1.Ok := by
 have hcl := h.cl
 unfold takeR
 split
 ·split
  ·exact h.ok
  split
  ·exact h.ok
  rename_i h1 h2
  split
  ·exact readR_ok h.ok hr f now yd yd
  ·exact updateR_ok h.ok f now
 split
 ·split
  ·rename_i h1; exact enterR_ok h.ok ⟨by have := chE_len h1.1.2; omega⟩ h.cap0 h.cap1
  ·exact h.ok
 split
 ·split
  ·exact forwardR_ok' h.ok _
  ·exact h.ok
 split
 ·split
  ·exact ackR_ok h.ok f
  ·exact h.ok
 split
 ·split
  ·exact becomeR_ok (baseR_ok h.ok _)
  ·exact h.ok
 split
 ·split
  ·exact sureR_ok h.ok _
  ·exact h.ok
 ·exact h.ok
structure Stays (R Q : RepM) : Prop where
 id : Q.id = R.id
 clients : Q.clients = R.clients
 cap : Q.cap = R.cap
 most : Q.most = R.most
 rcap : Q.rds.cap = R.rds.cap
theorem Stays.refl (R : RepM) : Stays R R := ⟨rfl, rfl, rfl, rfl, rfl⟩
theorem Stays.trans {R Q P : RepM} (h : Stays R Q) (k : Stays Q P) : Stays R P := ⟨k.id.trans h.id, k.clients.trans h.clients, k.cap.trans h.cap, k.most.trans h.most, k.rcap.trans h.rcap⟩
theorem RepM.Fit.stays {R Q : RepM} (h : R.Fit) (k : Stays R Q) (ok : Q.Ok) : Q.Fit := ⟨ok, by rw [k.most, k.rcap]; exact h.most, by rw [k.cap]; exact h.cap0, by rw [k.cap]; exact h.cap1, by rw [k.clients]; exact h.cl⟩
theorem finish_stays (R : RepM) : Stays R R.finishR := by unfold RepM.finishR; split <;> exact ⟨rfl, rfl, rfl, rfl, rfl⟩
theorem become_stays (R : RepM) : Stays R R.becomeR := by unfold RepM.becomeR; split <;> exact ⟨rfl, rfl, rfl, rfl, rfl⟩
theorem enter_stays (R : RepM) (c : ChM) : Stays R (enterR R c).1 := by
 refine Stays.trans (Q := ent5 R c) ?_ (finish_stays _)
 unfold ent5; split <;> exact ⟨rfl, rfl, rfl, rfl, rfl⟩
theorem put_cap (r : RdsM) (f : FrameM) (x : ResM) : (r.put f x).cap = r.cap := by unfold RdsM.put; split <;> rfl
theorem take_stays (R : RepM) (from_ : Int) (f : FrameM) (ms : List MemM) (now : Int) : Stays R (takeR R from_ f ms now).1 := by
 have r := Stays.refl R
 unfold takeR
 split
 ·split
  ·exact r
  split
  ·exact r
  split
  ·unfold readR; split
   ·exact r
   ·exact ⟨rfl, Z, Z, Z, put_cap _ _ _⟩
  ·unfold updateR; repeat' split
   all_goals exact ⟨rfl, rfl, rfl, rfl, rfl⟩
 split
 ·split
  ·exact enter_stays _ _
  ·exact r
 split
 ·split
  ·unfold forwardR; split
   ·exact Stays.trans (Q := (pushE R f.entry).finishR) (Stays.trans (Q := pushE R f.entry) ⟨rfl, Z, Z, Z, Z⟩ (finish_stays _)) (become_stays _)
   ·exact r
  ·exact r
 split
 ·split
  ·unfold ackR ack2 ack1; dsimp only; split <;> exact ⟨rfl, rfl, rfl, rfl, rfl⟩
  ·exact r
 split
 ·split
  ·exact Stays.trans (Q := baseR R f.index) ⟨rfl, Z, Z, Z, Z⟩ (become_stays _)
  ·exact r
 split
 ·split
  ·exact ⟨rfl, Z, Z, Z, Z⟩
  ·exact r
 ·exact r
theorem pass_stays (R : RepM) : Stays R (passR R).1 := ⟨rfl, rfl, rfl, rfl, rfl⟩
theorem serve_stays (R : RepM) (now : Int) : Stays R (serveR R now).1 := by
 unfold serveR
 split
 ·exact ⟨rfl, Z, Z, Z, Z⟩
 split
 ·exact ⟨rfl, Z, Z, Z, Z⟩
 ·exact Stays.trans (Q := pushE (nextA R now) (nextE R now)) ⟨rfl, Z, Z, Z, Z⟩ (finish_stays _)
theorem loop_stays (now : Int) : ∀ (k : Nat) (R : RepM), Stays R (serveLoop now k R).1
 | 0, R => Stays.refl R
 | k + 1, R => by
  rw [serveLoop]
  split
  ·split
   ·exact (serve_stays R now).trans (loop_stays now k _)
   ·exact serve_stays R now
  ·exact Stays.refl R
theorem step_stays (R : RepM) (now : Int) : Stays R (stepR R now).1 := by
 have h2 : Stays R (step2 R now).1 := by
  unfold step2; split
  ·exact Stays.trans (Q := expR R now) ⟨rfl, Z, Z, Z, Z⟩ (loop_stays now 65 _)
  ·exact ⟨rfl, Z, Z, Z, Z⟩
 show Stays R (step3 R now).1
 unfold step3; split
 ·exact h2.trans (pass_stays _)
 ·exact h2
theorem takeR_fit {R : RepM} (h : R.Fit) (hr : R.rds.last < 100000000) (from_ : Int) (f : FrameM) (ms : List MemM) (now : Int) : (takeR R from_ f ms now).1.Fit := h.stays (take_stays R from_ f ms now) (takeR_ok h hr from_ f ms now)
theorem stepR_fit {R : RepM} (h : R.Fit) (now : Int) : (stepR R now).1.Fit := h.stays (step_stays R now) (stepR_ok h.ok now)
end Rep
namespace Rep
open Go Vg T Api Kv Ch Lg Rd Win Adm Sched Conf
attribute [local irreducible] VO VC VA
section
variable {p : Nat} {R : RepM}
theorem take_spec (fit : R.Fit) (hlast : R.rds.last < 100000000) (from_ : Int) (f : FrameM) {ma : Option Addr} {mc : Nat} {ms : List MemM} (hm : RwIn memC 2 Fr w ma ms) (hml : ms.length ≤ 1000000) (now : Int)
  (hi1 : -9223372036854775808 ≤ f.entry.index) (hi2 : f.entry.index ≤ 9223372036854775807) : Tri Tryz.prog 17 [.pointer (some ⟨p, 0, none⟩), .int .i64 from_, .agg (fgC f (ma, ms.length, mc)).toArray, .int .i64 now] Fr w [repH p R]
  (fun v L => sent (takeR R from_ f ms now).2 v L [repH p (takeR R from_ f ms now).1]) := by
 have ok := fit.ok
 have hcl6 := fit.cl
 have hrl : R.rds.l.length ≤ 16 := by have := ok.rl; have := ok.rc1; omega
 refine TF 160 Tryz.func17 Z ym tabOk Z Z ?_
 refine CS (CG (VG (VB (vs := fgC f (ma, ms.length, mc)) Z fun fb => ?_)))
 refine xdy ?_
 refine VO.opn 1 Z (HOpn.rep p R) ?_
 rintro x -
 show VO _ _ _ _ _ [pt p (repCs R x) repT, slH memT 2 x.a R.ch.ms.length x.c (flat memC R.ch.ms), logH x.lp R.log, winH x.wp R.win, admH x.ap R.adm, rdsH x.rp R.rds, pt fb (fgC f (ma, ms.length, mc)) frT] _
 refine xke ?_
 refine zps ?_
 refine VG (VO.alloc Z fun ob => ?_)
 refine xdy ?_
 refine xkf ?_
 refine xgk ?_
 refine CN (L' := [pt p (repCs R x) repT, slH memT 2 x.a R.ch.ms.length x.c (flat memC R.ch.ms), logH x.lp R.log, winH x.wp R.win, admH x.ap R.adm, rdsH x.rp R.rds, outH ob [], pt fb (fgC f (ma, ms.length, mc)) frT]) (IP 1 Z (IP 1 Z (IP 1 Z (IP 1 Z (IP 1 Z (IP 1 Z (Imp.out (none, 0) (IP 0 Z (Imp.slNil (IP 0 Z Imp.nil)))))))))).ent ?_
 refine CS ?_
 refine VC.meetS (σ := Unit) (fun _ => [(9, pV ob)]) (fun _ => [repH p (takeR R from_ f ms now).1, outH ob (takeR R from_ f ms now).2]) (fun _ => True) ?_ ?_
 rotate_left
 ·rintro _ -
  refine VC.opn 1 Z (HOpn.out ob _) ?_
  rintro ⟨a, c⟩ -
  show VC _ _ _ [pt ob [.slice a (takeR R from_ f ms now).2.length c] outT, slH sndT 30 a (takeR R from_ f ms now).2.length c (flat sndC (takeR R from_ f ms now).2), repH p (takeR R from_ f ms now).1] _
  refine xdy ?_
  exact CR (Ret.tmp 8 Z Z (IP 2 Z (IP 1 Z Imp.nil)).ent ⟨a, c, Z, Z⟩)
 have shut : ∀ {X : Cx}, Ent X [pt p (repCs R x) repT, slH memT 2 x.a R.ch.ms.length x.c (flat memC R.ch.ms), logH x.lp R.log, winH x.wp R.win, admH x.ap R.adm, rdsH x.rp R.rds, outH ob [], pt fb (fgC f (ma, ms.length, mc)) frT] [repH p R, outH ob []] := fun {X} =>
  (Imp.rep x (pkZ [0, 0, 0, 0, 0, 0, 0])).ent
 have none_ : takeR R from_ f ms now = (R, []) → ∀ {X : Cx}, Ent X [pt p (repCs R x) repT, slH memT 2 x.a R.ch.ms.length x.c (flat memC R.ch.ms), logH x.lp R.log, winH x.wp R.win, admH x.ap R.adm, rdsH x.rp R.rds, outH ob [], pt fb (fgC f (ma, ms.length, mc)) frT] [repH p (takeR R from_ f ms now).1, outH ob (takeR R from_ f ms now).2] := fun h {X} => by
  rw [h]; exact shut
 refine xjp ?_
 refine CE (i := f.kind) (j := 1) Z (fun k1 => ?_) (fun k1 => ?_)
 ·have hT : takeR R from_ f ms now = (if f.client < 0 then (R, []) else if R.clients ≤ f.client then (R, []) else if readsB f.op = true then readR R f now else updateR R f now) := by rw [takeR, if_pos k1]
  refine CS ?_
  refine CS ?_
  refine CD (ts 0 12 .nil) ym yq ?_
  refine xjl ?_
  by_cases h1 : f.client < 0
  ·refine VA.go (AY 24 true Z (DT h1) ?_)
   refine xkr ?_
   refine VC.condT Z (CX ?_)
   exact ⟨(), trivial, sbZ, none_ (by rw [hT, if_pos h1])⟩
  refine VA.go (AY 24 false Z (DF h1) ?_)
  refine xkr ?_
  refine CP (p := R.clients ≤ f.client) Z (fun h2 => CX ?_) (fun h2 => CK ?_)
  ·exact ⟨(), trivial, sbZ, none_ (by rw [hT, if_neg h1, if_pos h2])⟩
  rw [if_neg h1, if_neg h2] at hT
  refine xdy ?_
  refine VG (VL 7 f.op.cells Z Z Z Z ?_)
  refine VG (VV (fun Fr w hF hs hS => Kv.reads_spec Fr w f.op) Z ?_)
  refine xdy ?_
  refine CC Z (fun h3 => ?_) (fun h3 => ?_)
  ·have h3 : readsB f.op = true := h3
   rw [if_pos h3] at hT
   refine zqq ?_
   refine xkt ?_
   refine VG (VK (Lc := [repH p R, outH ob []]) (Lr := []) (fun Fr w hF hs hS => read_spec Fr w ok fit.most ybp f (hm.of hF hs) hml now yd yd) Z Z ?_)
   rintro _ _ ⟨rfl, rfl⟩
   refine xdy ?_
   refine ⟨(), trivial, sbZ, ?_⟩
   rw [hT]; exact ER
  ·have h3 : ¬ readsB f.op = true := fun h => by rw [show readsB f.op = false from h3] at h; cases h
   rw [if_neg h3] at hT
   refine zqq ?_
   refine xkt ?_
   refine VG (VK (Lc := [repH p R, outH ob []]) (Lr := []) (fun Fr w hF hs hS => update_spec Fr w ok ybp f (ma, ms.length, mc) ⟨ms, Z, hml, RwIn.of hm hF hs⟩ now yd yd) Z Z ?_)
   rintro _ _ ⟨rfl, rfl⟩
   refine xdy ?_
   refine ⟨(), trivial, sbZ, ?_⟩
   rw [hT]; exact ER
 refine CS ?_
 refine xdy ?_
 refine CE (i := f.kind) (j := 8) Z (fun k2 => ?_) (fun k2 => ?_)
 ·have hT : takeR R from_ f ms now = (if (from_ = 16 ∧ chE (frCh f ms) = 0) ∧ R.ch.epoch < f.cepoch then enterR R (frCh f ms) else (R, [])) := by rw [takeR, if_neg k1, if_pos k2]
  refine CS ?_
  refine CD (ts 0 5 (.only 5 (ts 6 13 .nil))) ym yq ?_
  refine xjl ?_
  by_cases h1 : from_ = 16
  rotate_left
  ·rw [if_neg (fun h => h1 h.1.1)] at hT
   refine VA.go (AY 50 false Z yf ?_)
   refine xkr ?_
   refine xil ?_
   refine xkr ?_
   refine VA.go (AY 56 false Z Z ?_)
   refine xkr ?_
   refine xed ?_
   exact xku
  refine VA.go (AY 50 true Z yf ?_)
  refine xkr ?_
  refine VA.go (VA.ldA 7 ((frCh f ms).cells ma mc) Z Z Z Z Z ?_)
  refine VA.go (AR (fun Fr w hF hs hS => Ch.check_spec Fr w (c := frCh f ms) (hm.of hF hs) (by show ms.length ≤ _; omega)) Z Z yr ?_)
  refine xkr ?_
  by_cases h2 : chE (frCh f ms) = 0
  rotate_left
  ·rw [if_neg (fun h => h2 h.1.2)] at hT
   refine VA.go (AY 56 false Z yj ?_)
   refine xkr ?_
   refine xed ?_
   exact xku
  refine VA.go (AY 56 true Z yj ?_)
  refine xkr ?_
  refine CP (p := R.ch.epoch < f.cepoch) Z (fun h3 => ?_) (fun h3 => CK ?_)
  ·rw [if_pos ⟨⟨h1, h2⟩, h3⟩] at hT
   have hcs : ChS (frCh f ms) := ⟨by have := chE_len h2; omega⟩
   refine xdy ?_
   refine VG (VL 7 ((frCh f ms).cells ma mc) Z Z Z Z ?_)
   refine xkt ?_
   refine xdy ?_
   refine VG (VK (Lc := [repH p R, outH ob []]) (Lr := []) (fun Fr w hF hs hS => enter_spec Fr w ok fit.cap0 fit.cap1 ybq (c := frCh f ms) (hm.of hF hs) hcs) Z Z ?_)
   rintro _ _ ⟨rfl, rfl⟩
   refine xdy ?_
   refine ⟨(), trivial, sbZ, ?_⟩
   rw [hT]; exact ER
  ·rw [if_neg (fun h => h3 h.2)] at hT
   exact xku
 refine CS ?_
 refine xdy ?_
 refine CE (i := f.kind) (j := 4) Z (fun k3 => ?_) (fun k3 => ?_)
 ·have hT : takeR R from_ f ms now = (if R.knownB f = true ∧ isNodeB from_ R.prevM = true then forwardR R f.entry else (R, [])) := by rw [takeR, if_neg k1, if_neg k2, if_pos k3]
  refine zqq ?_
  refine xju ?_
  refine xdy ?_
  by_cases h1 : R.knownB f = true
  rotate_left
  ·rw [if_neg (fun h => h1 h.1)] at hT
   have h1 : R.knownB f = false := by simpa using h1
   refine VG (VY 77 false Z h1 ?_)
   refine zpn ?_
   exact xku
  refine VG (VY 77 true Z h1 ?_)
  refine xel ?_
  refine xkv ?_
  refine xel ?_
  refine VG (VO.callV (fun Fr w => isNode_spec Fr w from_ R.prevM) Z ?_)
  refine xel ?_
  refine CC Z (fun h2 => ?_) (fun h2 => CK ?_)
  ·rw [if_pos ⟨h1, h2⟩] at hT
   refine xdy ?_
   refine VG (VL 7 (entC f.entry) Z Z Z Z ?_)
   refine xkt ?_
   refine xdy ?_
   refine VG (VK (Lc := [repH p R, outH ob []]) (Lr := []) (fun Fr w hF hs hS => forward_spec Fr w ok ybq f.entry hi1 hi2) Z Z ?_)
   rintro _ _ ⟨rfl, rfl⟩
   refine xdy ?_
   refine ⟨(), trivial, sbZ, ?_⟩
   rw [hT]; exact ER
  ·rw [if_neg (fun h => by have := h.2; rw [h2] at this; cases this)] at hT
   exact xku
 refine CS ?_
 refine xdy ?_
 refine CE (i := f.kind) (j := 5) Z (fun k4 => ?_) (fun k4 => ?_)
 ·have hT : takeR R from_ f ms now = (if R.knownB f = true ∧ isNodeB from_ R.nextM = true then ackR R f else (R, [])) := by rw [takeR, if_neg k1, if_neg k2, if_neg k3, if_pos k4]
  refine zqq ?_
  refine xju ?_
  refine xdy ?_
  by_cases h1 : R.knownB f = true
  rotate_left
  ·rw [if_neg (fun h => h1 h.1)] at hT
   have h1 : R.knownB f = false := by simpa using h1
   refine VG (VY 93 false Z h1 ?_)
   refine zpn ?_
   exact xku
  refine VG (VY 93 true Z h1 ?_)
  refine xel ?_
  refine xka ?_
  refine xel ?_
  refine VG (VO.callV (fun Fr w => isNode_spec Fr w from_ R.nextM) Z ?_)
  refine xel ?_
  refine CC Z (fun h2 => ?_) (fun h2 => CK ?_)
  ·rw [if_pos ⟨h1, h2⟩] at hT
   refine zqq ?_
   refine xkt ?_
   refine xdy ?_
   refine VG (VK (Lc := [repH p R, outH ob []]) (Lr := []) (fun Fr w hF hs hS => ack_spec Fr w ok ybq f _) Z Z ?_)
   rintro _ _ ⟨rfl, rfl⟩
   refine xdy ?_
   refine ⟨(), trivial, sbZ, ?_⟩
   rw [hT]; exact ER
  ·rw [if_neg (fun h => by have := h.2; rw [h2] at this; cases this)] at hT
   exact xku
 refine CS ?_
 refine xdy ?_
 refine CE (i := f.kind) (j := 6) Z (fun k5 => ?_) (fun k5 => ?_)
 ·have hT : takeR R from_ f ms now = (if R.knownB f = true ∧ isNodeB from_ R.prevM = true then ((baseR R f.index).becomeR, (baseR R f.index).becomeM) else (R, [])) := by rw [takeR, if_neg k1, if_neg k2, if_neg k3, if_neg k4, if_pos k5]
  refine zqq ?_
  refine xju ?_
  refine xdy ?_
  by_cases h1 : R.knownB f = true
  rotate_left
  ·rw [if_neg (fun h => h1 h.1)] at hT
   have h1 : R.knownB f = false := by simpa using h1
   refine VG (VY 108 false Z h1 ?_)
   refine zpn ?_
   exact xku
  refine VG (VY 108 true Z h1 ?_)
  refine xel ?_
  refine xkv ?_
  refine xel ?_
  refine VG (VO.callV (fun Fr w => isNode_spec Fr w from_ R.prevM) Z ?_)
  refine xel ?_
  refine CC Z (fun h2 => ?_) (fun h2 => CK ?_)
  ·rw [if_pos ⟨h1, h2⟩] at hT
   have okb := baseR_ok ok f.index
   refine xjp ?_
   refine VG (VO.st 0 (cs' := repCs (baseR R f.index) x) Z Z Z Z (by show 14 < 17; omega) (by
    rw [show (if f.index < -1 then (-1 : Int) else f.index) = max f.index (-1) by split <;> omega]
    rfl) rfl ?_)
   refine xdy ?_
   refine VO.ent (L' := [repH p (baseR R f.index), outH ob []]) (Imp.rep (R := baseR R f.index) x (pkZ [0, 0, 0, 0, 0, 0, 0])).ent ?_
   refine VG (VK (Lc := [repH p (baseR R f.index), outH ob []]) (Lr := []) (fun Fr w hF hs hS => become_spec Fr w okb ybp) Z Z ?_)
   rintro _ _ ⟨rfl, rfl⟩
   refine xdy ?_
   refine ⟨(), trivial, sbZ, ?_⟩
   rw [hT]; exact ER
  ·rw [if_neg (fun h => by have := h.2; rw [h2] at this; cases this)] at hT
   exact xku
 refine CS ?_
 refine xdy ?_
 refine CE (i := f.kind) (j := 10) Z (fun k6 => ?_) (fun k6 => CK ?_)
 rotate_left
 ·exact ⟨(), trivial, sbZ, none_ (by rw [takeR, if_neg k1, if_neg k2, if_neg k3, if_neg k4, if_neg k5, if_neg k6])⟩
 have hT : takeR R from_ f ms now = (if R.knownB f = true ∧ from_ = 16 then (sureR R f.index, sureS R f.index) else (R, [])) := by rw [takeR, if_neg k1, if_neg k2, if_neg k3, if_neg k4, if_neg k5, if_pos k6]
 refine zqq ?_
 refine xju ?_
 refine xdy ?_
 by_cases h1 : R.knownB f = true
 rotate_left
 ·rw [if_neg (fun h => h1 h.1)] at hT
  have h1 : R.knownB f = false := by simpa using h1
  refine VG (VY 128 false Z h1 ?_)
  refine zpn ?_
  exact xku
 refine VG (VY 128 true Z h1 ?_)
 refine xel ?_
 refine CE (i := from_) (j := 16) Z (fun h2 => ?_) (fun h2 => CK ?_)
 rotate_left
 ·rw [if_neg (fun h => h2 h.2)] at hT
  exact xku
 rw [if_pos ⟨h1, h2⟩] at hT
 refine CN (L' := [rdsH x.rp R.rds, pt p (repCs R x) repT, slH memT 2 x.a R.ch.ms.length x.c (flat memC R.ch.ms), logH x.lp R.log, winH x.wp R.win, admH x.ap R.adm, outH ob [], pt fb (fgC f (ma, ms.length, mc)) frT]) (pkZ [5, 0, 0, 0, 0, 0, 0, 0]).ent ?_
 refine CS ?_
 refine CD (ts 0 6 (.take 8 (.only 6 (.take 7 .nil)))) ym yq ?_
 refine xjl ?_
 refine VA.go (AO (OC (Lc := [rdsH x.rp R.rds]) (R := fun v L => ∃ a c rows, rows.map Prod.fst = R.rds.l.filter (fun x => !surely f.index x) ∧ v = .slice a rows.length c ∧ L = [rdsH x.rp { R.rds with l := R.rds.l.filter (surely f.index) }, slH rdT 34 a rows.length c (flat rdC rows)]) Z (.refl _) (fun Fr w hF hs hS => Rd.sure_spec Fr w ok.rc0 yd f.index)) Z ?_ ?_)
 ·rintro _ _ ⟨_, ⟨ga, gc, rows, hrows, rfl, rfl⟩, rfl⟩
  exact yr
 rintro _ _ ⟨_, ⟨ga, gc, rows, hrows, rfl, rfl⟩, rfl⟩
 refine xkw ?_
 have hrowl : rows.length ≤ 16 := by
  have := congrArg List.length hrows
  rw [List.length_map] at this
  have h2 := List.length_filter_le (fun y => !surely f.index y) R.rds.l
  omega
 show VC _ _ _ [rdsH x.rp (sureR R f.index).rds, slH rdT 34 ga rows.length gc (flat rdC rows), pt p (repCs R x) repT, slH memT 2 x.a R.ch.ms.length x.c (flat memC R.ch.ms), logH x.lp R.log, winH x.wp R.win, admH x.ap R.adm, outH ob [], pt fb (fgC f (ma, ms.length, mc)) frT] _
 refine VC.opn 1 Z (HOpn.rl rdT ga gc rows rdC_len) ?_
 rintro r ⟨rok, hrv, hrx⟩
 show VC _ _ _ [r.h rdT, rdsH x.rp (sureR R f.index).rds, pt p (repCs R x) repT, slH memT 2 x.a R.ch.ms.length x.c (flat memC R.ch.ms), logH x.lp R.log, winH x.wp R.win, admH x.ap R.adm, outH ob [], pt fb (fgC f (ma, ms.length, mc)) frT] _
 have hexp : ∀ i, i ≤ rows.length → (rows.take i).length = i := fun i hi => by simp; omega
 refine xjt ?_
 refine VC.loop (σ := Nat) (fun i => [(0, pV p), (9, pV ob), (10, sendF ob), (138, .slice ga rows.length gc), (139, .int .i64 rows.length), (140, .int .i64 i)])
  (fun i => [r.h rdT, rdsH x.rp (sureR R f.index).rds, pt p (repCs R x) repT, slH memT 2 x.a R.ch.ms.length x.c (flat memC R.ch.ms), logH x.lp R.log, winH x.wp R.win, admH x.ap R.adm, outH ob ((rows.take i).map fun y => (32 + y.1.f.client, replyF y.1.f.client y.1.f.seq y.1.f.try_ y.1.r))])
  (fun i => i ≤ rows.length) (fun i => rows.length - i) 0
  (Nat.zero_le _) sbZ (pkZ [0, 0, 0, 0, 0, 0, 0, 0]).ent ?_
 intro i hi
 refine xdy ?_
 refine CP Z (fun h1 => CK ?_) (fun h1 => CX ?_)
 ·have hi2 : i < rows.length := by omega
  obtain ⟨g, hg⟩ : ∃ g, rows[i]? = some g := ⟨_, GE hi2⟩
  have hgm : g.1 ∈ R.rds.l := by
   have h2 : g.1 ∈ rows.map Prod.fst := List.mem_map.2 ⟨g, ME hg, rfl⟩
   rw [hrows] at h2
   exact (List.mem_filter.1 h2).1
  have hcg := ok.rcl g.1 hgm
  obtain ⟨gb, go, r1, r2, hrd⟩ := rok.ld (t := rdT) (hrx ▸ hg) rfl
  obtain rfl : ga = some ⟨gb, go, none⟩ := by rw [RL.v, r2, hrx] at hrv; injection hrv with e1; exact e1.symm
  refine zpu ?_
  refine xkg ?_
  refine VG (VO.alloc Z fun tb => ?_)
  refine xkh ?_
  refine xdy ?_
  refine VG (VL 0 (resC g.1.r) Z Z Z Z ?_)
  refine xdy ?_
  refine VG (VQ 8 Z (fun Fr w hF hs hS => reply_spec Fr w (by rw [List.length_map, hexp i yd]; omega) g.1.f.client g.1.f.seq g.1.f.try_ hcg.1 yd g.1.r) Z (ψ := fun v H => v = .tuple #[] ∧ H = outH ob ((rows.take i).map (fun y => (32 + y.1.f.client, replyF y.1.f.client y.1.f.seq y.1.f.try_ y.1.r)) ++ [(32 + g.1.f.client, replyF g.1.f.client g.1.f.seq g.1.f.try_ g.1.r)])) yz ?_)
  rintro _ _ ⟨rfl, rfl⟩
  refine zpg ?_
  refine ⟨i + 1, hi2, by dsimp only; omega, sbZ, ?_⟩
  dsimp only
  rw [List.take_add_one, hg, Option.toList_some, List.map_append, List.map_singleton]
  exact (pkZ [1, 1, 1, 1, 1, 1, 1, 1]).ent
 obtain rfl : i = rows.length := by omega
 rw [List.take_length]
 have hes : (rows.map fun y => ((32 + y.1.f.client, replyF y.1.f.client y.1.f.seq y.1.f.try_ y.1.r) : SndM)) = sureS R f.index := by
  unfold sureS
  rw [← hrows, List.map_map]; rfl
 rw [hes]
 refine ⟨(), trivial, sbZ, ?_⟩
 rw [hT]
 exact (Imp.rep (R := sureR R f.index) x (pkZ [2, 2, 2, 2, 2, 1, 1])).ent
end
end Rep
namespace Rep
open Go Vg T Api Kv Ch Lg Rd Win Adm Sched Conf
attribute [local irreducible] VO VC VA
section
variable {p : Nat} {R : RepM}
theorem whole_spec (h : SatIn Fr [repH p R] w) : Tri Tryz.prog 15 [.pointer (some ⟨p, 0, none⟩)] Fr w [] (fun v L => v = .bool R.whole ∧ L = []) := by
 obtain ⟨x, hx⟩ := RepIn.of' h
 have hb := hx.blk
 refine TF 11 Tryz.func15 Z ym tabOk Z Z ?_
 refine xdy ?_
 refine VG (VV (fun Fr w hF hs _ => made_spec Fr w (hb.of hF hs)) Z ?_)
 refine xdy ?_
 refine VG (VY 5 true Z Z ?_)
 refine xjg ?_
 exact xej
theorem rsince_spec (h : SatIn Fr [repH p R] w) : Tri Tryz.prog 16 [.pointer (some ⟨p, 0, none⟩)] Fr w [] (fun v L => v = .int .i64 R.since ∧ L = []) := by
 obtain ⟨x, hx⟩ := RepIn.of' h
 have hb := hx.blk
 refine TF 10 Tryz.func16 Z ym tabOk Z Z ?_
 refine xdy ?_
 refine VG (VV (fun Fr w hF hs _ => made_spec Fr w (hb.of hF hs)) Z (VG (VN (VC.condF Z (CK ?_)))))
 refine xfh ?_
 exact xee
theorem log_spec (ok : R.Ok) (h : SatIn Fr [repH p R] w) : Tri Tryz.prog 18 [.pointer (some ⟨p, 0, none⟩)] Fr w [] (fun v L => ∃ q, v = .pointer (some ⟨q, 0, none⟩) ∧ L = [logH q R.log]) := by
 obtain ⟨x, hx⟩ := RepIn.of' h
 have hb := hx.blk
 have hl := hx.log
 have h1 := ok.last; have h2 := ok.win.last1
 refine TF 11 Tryz.func18 Z ym tabOk Z Z ?_
 refine xdy ?_
 refine VG (VV (fun Fr w hF hs _ => made_spec Fr w (hb.of hF hs)) Z (VG (VN (VC.condF Z (CK ?_)))))
 refine xfh ?_
 refine VG (VK (Lc := []) (fun Fr w hF hs _ => Lg.copy_spec Fr w (hl.of hF hs) yd) Z Z ?_)
 rintro _ _ ⟨q, rfl, rfl⟩
 exact zrv
theorem window_spec (ok : R.Ok) (h : SatIn Fr [repH p R] w) : Tri Tryz.prog 21 [.pointer (some ⟨p, 0, none⟩)] Fr w [] (fun v L => ∃ q, v = .pointer (some ⟨q, 0, none⟩) ∧ L = [winH q R.win]) := by
 obtain ⟨x, hx⟩ := RepIn.of' h
 have hb := hx.blk
 have hl := hx.win
 refine TF 11 Tryz.func21 Z ym tabOk Z Z ?_
 refine xdy ?_
 refine VG (VV (fun Fr w hF hs _ => made_spec Fr w (hb.of hF hs)) Z (VG (VN (VC.condF Z (CK ?_)))))
 refine xfh ?_
 refine VG (VK (Lc := []) (fun Fr w hF hs _ => Win.copy_spec Fr w (hl.of hF hs) ok.win.cap0) Z Z ?_)
 rintro _ _ ⟨q, rfl, rfl⟩
 exact zrv
theorem chain_spec (ok : R.Ok) (h : SatIn Fr [repH p R] w) : Tri Tryz.prog 37 [.pointer (some ⟨p, 0, none⟩)] Fr w [] (fun v L => ∃ a c, v = .agg (R.ch.cells a c).toArray ∧ L = [slH memT 2 a R.ch.ms.length c (flat memC R.ch.ms)]) := by
 obtain ⟨x, hx⟩ := RepIn.of' h
 have hb := hx.blk
 have hm := hx.mem
 have hl := ok.ch.len
 refine TF 12 Tryz.func37 Z ym tabOk Z Z ?_
 refine CS (CG (VG (VO.alloc Z fun d => ?_)))
 refine xdy ?_
 refine VG (VV (fun Fr w hF hs _ => made_spec Fr w (hb.of hF hs)) Z (VG (VN (VC.condF Z (CK ?_)))))
 refine xdy ?_
 refine VG (VD Z Z (RdL.blkA (ds := R.ch.cells x.a x.c) hb Z) ?_)
 refine xkj ?_
 rintro _ _ ⟨a', c', rfl, rfl⟩
 refine VG (VT (vs := R.ch.cells a' c') (cs' := R.ch.cells a' c') 1 Z Z Z Z (NR _) Z Z Z ?_)
 refine xdy ?_
 exact xki
theorem reading_spec (ok : R.Ok) (h : SatIn Fr [repH p R] w) : Tri Tryz.prog 39 [.pointer (some ⟨p, 0, none⟩)] Fr w [] (fun v L => v = .int .i64 R.rds.l.length ∧ L = []) := by
 obtain ⟨x, hx⟩ := RepIn.of' h
 have hb := hx.blk
 have hl := hx.rds
 refine TF 11 Tryz.func39 Z ym tabOk Z Z ?_
 refine xdy ?_
 refine VG (VV (fun Fr w hF hs _ => made_spec Fr w (hb.of hF hs)) Z (VG (VN (VC.condF Z (CK ?_)))))
 refine xfh ?_
 refine VG (VV (fun Fr w hF hs _ => Rd.len_spec Fr w (hl.of hF hs) ok.rc0) Z ?_)
 refine xdy ?_
 exact xee
def drainedF (epoch : Int) : FrameM := { FrameM.zero with kind := 12, epoch := epoch }
def tick1 (R : RepM) : RepM := if R.linked then { R with win := { R.win with sent := min (max R.have_ 0) R.win.last } } else R
def tickR (R : RepM) : RepM × List SndM := (tick1 R, R.masterM ++ R.greetM ++ R.baseM ++ (if (!R.rds.l.isEmpty) = true then [(16, confirmF R.ch.epoch R.rds.lastI)] else []) ++ (if R.drainsB = true ∧ R.win.done = R.win.last then [(16, drainedF R.ch.epoch)] else []))
theorem tick1_ok {R : RepM} (h : R.Ok) : (tick1 R).Ok := by
 unfold tick1
 split
 ·have hw := h.win
  refine ⟨h.ch, ⟨hw.cap0, hw.cap1, hw.done0, hw.done1, hw.last1, ?_, ?_, hw.lim0, hw.lim1⟩, h.last, h.logc, h.logi, h.rc0, h.rc1, h.rl, h.rn0, h.rn1, h.rcl, h.calls, h.wf⟩
  ·show 0 ≤ min (max R.have_ 0) R.win.last
   have := hw.done0; have := hw.done1; omega
  ·show min (max R.have_ 0) R.win.last ≤ R.win.last; omega
 ·exact h
theorem tick_spec (ok : R.Ok) (now : Int) : Tri Tryz.prog 28 [.pointer (some ⟨p, 0, none⟩), .int .i64 now] Fr w [repH p R]
  (fun v L => sent (tickR R).2 v L [repH p (tickR R).1]) := by
 have hrl : R.rds.l.length ≤ 16 := by have := ok.rl; have := ok.rc1; omega
 have gl : R.greetM.length ≤ 1 := by unfold RepM.greetM; split <;> simp
 have bl : R.baseM.length ≤ 1 := by unfold RepM.baseM; split <;> simp
 have ml : R.masterM.length = 1 := rfl
 refine TF 78 Tryz.func28 Z ym tabOk Z Z ?_
 refine xjh ?_
 rintro x -
 show VC _ _ _ [pt p (repCs R x) repT, slH memT 2 x.a R.ch.ms.length x.c (flat memC R.ch.ms), logH x.lp R.log, winH x.wp R.win, admH x.ap R.adm, rdsH x.rp R.rds] _
 refine xdy ?_
 refine xke ?_
 refine zps ?_
 refine VG (VO.alloc Z fun ob => ?_)
 refine xdy ?_
 refine xkf ?_
 refine xdy ?_
 refine VO.ent (L' := repO p R x ob []) (IP 1 Z (IP 1 Z (IP 1 Z (IP 1 Z (IP 1 Z (IP 1 Z (Imp.out (none, 0) (IP 0 Z (Imp.slNil Imp.nil))))))))).ent ?_
 unfold repO
 refine VG (VQ 6 Z (fun Fr w hF hs hS => tellMaster_spec Fr w (hS.blk 0 Z) (by show 0 ≤ 1000000; omega)) Z (ψ := fun v H => v = .tuple #[] ∧ H = outH ob ([] ++ R.masterM)) yz ?_)
 rintro _ _ ⟨rfl, rfl⟩
 refine xdy ?_
 refine VG (VQ 6 Z (fun Fr w hF hs hS => greet_spec Fr w (RepIn.pcs hS 0 Z Z Z Z Z Z) ok.ch ok.win (by rw [List.nil_append]; omega)) Z (ψ := fun v H => v = .tuple #[] ∧ H = outH ob (R.masterM ++ R.greetM)) yz ?_)
 rintro _ _ ⟨rfl, rfl⟩
 refine xdy ?_
 refine VG (VQ 6 Z (fun Fr w hF hs hS => tellBase_spec Fr w (RepIn.pcs hS 0 Z Z Z Z Z Z) ok.ch ybf) Z (ψ := fun v H => v = .tuple #[] ∧ H = outH ob (R.masterM ++ R.greetM ++ R.baseM)) yz ?_)
 rintro _ _ ⟨rfl, rfl⟩
 generalize hS1 : R.masterM ++ R.greetM ++ R.baseM = S1
 have hS1l : S1.length ≤ 3 := by rw [← hS1, List.length_append, List.length_append]; omega
 refine xgk ?_
 show VC _ _ _ (repO p R x ob S1) _
 have R2e : ∀ (y : RepS) (S : List SndM), repO p (tick1 R) y ob S = [pt p (repCs (tick1 R) y) repT, slH memT 2 y.a (tick1 R).ch.ms.length y.c (flat memC (tick1 R).ch.ms), logH y.lp (tick1 R).log, winH y.wp (tick1 R).win, admH y.ap (tick1 R).adm, rdsH y.rp (tick1 R).rds, outH ob S] := fun _ _ => rfl
 refine CS ?_
 refine VC.meetS (σ := Unit) (fun _ => [(0, pV p), (5, pV ob), (6, sendF ob)]) (fun _ => repO p (tick1 R) x ob S1) (fun _ => True) ?_ ?_
 ·unfold repO
  refine xdy ?_
  refine CC Z (fun h1 => ?_) (fun h1 => CK ?_)
  ·have e : tick1 R = { R with win := { R.win with sent := min (max R.have_ 0) R.win.last } } := by rw [tick1, if_pos h1]
   refine CD (ts 0 8 (.only 8 .nil)) ym yq ?_
   refine xeh ?_
   refine VA.go (AQ 3 Z (fun Fr w hF hs hS => Win.back_spec Fr w ok.win R.have_) Z Z (ψ := fun v H => v = .tuple #[] ∧ H = winH x.wp { R.win with sent := min (max R.have_ 0) R.win.last }) yz ?_ ?_)
   ·rintro _ _ ⟨rfl, rfl⟩
    exact yr
   rintro _ _ ⟨rfl, rfl⟩
   refine xeh ?_
   refine ⟨(), trivial, sbZ, ?_⟩
   rw [e]; exact ER
  ·have e : tick1 R = R := by rw [tick1, if_neg ybb]
   refine ⟨(), trivial, sbZ, ?_⟩
   rw [e]; exact ER
 rintro _ -
 have et : (tick1 R).rds = R.rds ∧ (tick1 R).ch = R.ch ∧ (tick1 R).drainsB = R.drainsB ∧ (tick1 R).win.done = R.win.done ∧ (tick1 R).win.last = R.win.last := by unfold tick1; split <;> exact ⟨rfl, rfl, rfl, rfl, rfl⟩
 have okt := tick1_ok ok
 have htk : tickR R = (tick1 R, S1 ++ (if (!(tick1 R).rds.l.isEmpty) = true then [(16, confirmF (tick1 R).ch.epoch (tick1 R).rds.lastI)] else []) ++ (if (tick1 R).drainsB = true ∧ (tick1 R).win.done = (tick1 R).win.last then [(16, drainedF (tick1 R).ch.epoch)] else [])) := by
  rw [et.1, et.2.1, et.2.2.1, et.2.2.2.1, et.2.2.2.2, ← hS1]; rfl
 rw [htk]
 have hrt : (tick1 R).rds.l.length ≤ 16 := by rw [et.1]; exact hrl
 generalize tick1 R = Q at *
 refine CS ?_
 refine VC.meetS (σ := Unit) (fun _ => [(0, pV p), (5, pV ob), (6, sendF ob)]) (fun _ => repO p Q x ob (S1 ++ (if (!Q.rds.l.isEmpty) = true then [(16, confirmF Q.ch.epoch Q.rds.lastI)] else []))) (fun _ => True) ?_ ?_
 ·unfold repO
  refine xdy ?_
  refine VG (VV (fun Fr w hF hs hS => Rd.last_spec Fr w (hS.at_ 5 Z) okt.rc0 yd) Z ?_)
  refine xdy ?_
  refine CC Z (fun h1 => ?_) (fun h1 => CK ?_)
  ·refine xdy ?_
   refine VG (VI (LB (pv := [(0, .int .i64 9), (1, .int .i64 Q.ch.epoch), (12, .int .i64 Q.rds.lastI)]) (fgC (confirmF Q.ch.epoch Q.rds.lastI) mem0) Z Z Z ym Z) ?_)
   refine VG (VO.callFAt 6 Z Z (fun Fr w hF hs _ => add_spec Fr w ob S1 yd 16 (confirmF Q.ch.epoch Q.rds.lastI)) Z (ψ := fun v H => v = .tuple #[] ∧ H = outH ob (S1 ++ [(16, confirmF Q.ch.epoch Q.rds.lastI)])) yz ?_)
   rintro _ _ ⟨rfl, rfl⟩
   refine xdy ?_
   refine ⟨(), trivial, sbZ, ?_⟩
   rw [if_pos h1]; exact ER
  ·refine ⟨(), trivial, sbZ, ?_⟩
   rw [if_neg ybb, List.append_nil]; exact ER
 rintro _ -
 generalize hS2 : S1 ++ (if (!Q.rds.l.isEmpty) = true then [(16, confirmF Q.ch.epoch Q.rds.lastI)] else []) = S2
 have hS2l : S2.length ≤ 4 := by rw [← hS2, List.length_append]; split <;> simp <;> omega
 refine CS ?_
 refine VC.meetS (σ := Unit) (fun _ => [(5, pV ob)]) (fun _ => [repH p Q, outH ob (S2 ++ (if Q.drainsB = true ∧ Q.win.done = Q.win.last then [(16, drainedF Q.ch.epoch)] else []))]) (fun _ => True) ?_ ?_
 ·unfold repO
  have no : ¬ (Q.drainsB = true ∧ Q.win.done = Q.win.last) → ∀ {X : Cx}, Ent X (repO p Q x ob S2) [repH p Q, outH ob (S2 ++ (if Q.drainsB = true ∧ Q.win.done = Q.win.last then [(16, drainedF Q.ch.epoch)] else []))] := fun h {X} => by
   rw [if_neg h, List.append_nil]; exact repO_shut.ent
  refine CS ?_
  refine CD (ts 0 1 (.only 1 (ts 2 5 (ts 8 4 (.only 7 (.only 12 (ts 13 2 .nil))))))) ym yq ?_
  refine xeh ?_
  refine VA.go (AR (fun Fr w hF hs hS => drains_spec Fr w (hS.blk 0 Z)) Z Z yr ?_)
  refine xeh ?_
  by_cases h1 : Q.drainsB = true
  rotate_left
  ·have h1' : Q.drainsB = false := by simpa using h1
   refine VA.go (AY 55 false Z h1' ?_)
   refine xeq ?_
   refine zql ?_
   refine zql ?_
   refine xed ?_
   exact ⟨(), trivial, sbZ, no (fun h => h1 h.1)⟩
  refine VA.go (AY 55 true Z h1 ?_)
  refine xeq ?_
  refine VA.go (AR (fun Fr w hF hs hS => Win.done_spec Fr w (hS.blk 3 Z) okt.win.cap0) Z Z yr ?_)
  refine xeq ?_
  refine VA.go (AR (fun Fr w hF hs hS => Win.last_spec Fr w (hS.blk 3 Z) okt.win.cap0) Z Z yr ?_)
  refine xeq ?_
  refine CE (i := Q.win.done) (j := Q.win.last) Z (fun h2 => ?_) (fun h2 => CK ?_)
  ·refine xdy ?_
   refine VG (VI (LB (pv := [(0, .int .i64 12), (1, .int .i64 Q.ch.epoch)]) (fgC (drainedF Q.ch.epoch) mem0) Z Z Z ym Z) ?_)
   refine VG (VO.callFAt 6 Z Z (fun Fr w hF hs _ => add_spec Fr w ob S2 yd 16 (drainedF Q.ch.epoch)) Z (ψ := fun v H => v = .tuple #[] ∧ H = outH ob (S2 ++ [(16, drainedF Q.ch.epoch)])) yz ?_)
   rintro _ _ ⟨rfl, rfl⟩
   refine xdy ?_
   refine ⟨(), trivial, sbZ, ?_⟩
   rw [if_pos ⟨h1, h2⟩]; exact (repO_shut (x := x)).ent
  ·exact ⟨(), trivial, sbZ, no (fun h => h2 h.2)⟩
 rintro _ -
 refine VC.opn 1 Z (HOpn.out ob _) ?_
 rintro ⟨a, c⟩ -
 refine xdy ?_
 exact CR (Ret.tmp 4 Z Z (IP 2 Z (IP 1 Z Imp.nil)).ent ⟨a, c, Z, Z⟩)
end
end Rep
namespace Rep
open Go Vg T Api Kv Ch Lg Rd Win Adm Sched Conf
attribute [local irreducible] VO VC VA
def putM (client seq try_ epoch : Int) : FrameM := { FrameM.zero with kind := 1, epoch := epoch, client := client, seq := seq, try_ := try_, deadline := 9, op := ⟨2, ⟨#[107]⟩, ⟨#[118]⟩, 0⟩ }
theorem put_spec (c s t e : Int) : Tri Tryz.prog 43 [.int .i64 c, .int .i64 s, .int .i64 t, .int .i64 e] Fr w [] (fun v L => v = .agg (fgC (putM c s t e) mem0).toArray ∧ L = []) := by
 refine TF 15 Tryz.func43 Z ym tabOk Z Z ?_
 refine CS (CG (VG (VO.alloc Z fun b => VG (VN ?_))))
 refine xhm ?_
 refine VG (VI (LB (pv := [(0, .int .i64 2), (1, .string ⟨#[107]⟩), (2, .string ⟨#[118]⟩)]) (putM c s t e).op.cells Z Z Z Z Z) ?_)
 refine VG (VI (LB (pv := [(0, .int .i64 1), (1, .int .i64 e), (2, .int .i64 c), (3, .int .i64 s), (4, .int .i64 t), (6, .int .i64 9), (7, .agg (putM c s t e).op.cells.toArray)]) (fgC (putM c s t e) mem0) Z Z Z ym Z) ?_)
 refine VG (VT (vs := fgC (putM c s t e) mem0) (cs' := fgC (putM c s t e) mem0) 0 Z Z Z Z (NR _) Z Z Z (VG (VN ?_)))
 exact CR (Ret.cell 8 Z Z Z (RdL.many 0 Z Z) Imp.nil.ent ⟨rfl, Z⟩)
def toB (S : List SndM) (whom kind : Int) : Bool := match S with
 | [x] => x.1 == whom && x.2.kind == kind
 | _ => false
theorem to_spec {a : Option Addr} {c : Nat} {S : List SndM} (h : RwIn sndC 30 Fr w a S) (hS : S.length ≤ 1000000) (whom kind : Int) : Tri Tryz.prog 47 [.slice a S.length c, .int .i64 whom, .int .i64 kind] Fr w []
  (fun v L => v = .bool (toB S whom kind) ∧ L = []) := by
 refine TF 27 Tryz.func47 Z ym tabOk Z Z ?_
 refine xdy ?_
 by_cases h1 : S.length = 1
 rotate_left
 ·refine VG (VY 10 false Z (by rw [beq_eq_false_iff_ne]; omega) ?_)
  refine xel ?_
  refine VG (VY 18 false Z Z ?_)
  refine xel ?_
  refine CR (Ret.bool 6 Z Z ?_ ER ⟨rfl, Z⟩)
  cases S with
  | nil => rfl
  | cons x l => cases l with
   | nil => exact absurd rfl h1
   | cons y l => rfl
 obtain ⟨x, rfl⟩ : ∃ x, S = [x] := List.length_eq_one_iff.1 h1
 obtain ⟨mb, mo, hma, ra, rc⟩ := RwIn.rd (X := ⟨Tryz.prog, tab, tabOk, 27, Fr, w⟩) h (i := 0) (x := x) rfl
 subst hma
 refine VG (VY 10 true Z Z ?_)
 refine xdy ?_
 refine xkx ?_
 refine xdy ?_
 refine xgg ?_
 refine xdy ?_
 cases h2 : (x.1 == whom) with
 | false =>
  refine VG (VY 18 false Z h2 ?_)
  refine xel ?_
  exact CR (Ret.bool 6 Z Z (by rw [toB, h2]; rfl) ER ⟨rfl, Z⟩)
 | true =>
  refine VG (VY 18 true Z h2 ?_)
  refine xel ?_
  refine xkx ?_
  refine xel ?_
  refine xgo ?_
  refine xel ?_
  exact CR (Ret.bool 6 Z Z (by rw [toB, h2]; rfl) ER ⟨rfl, Z⟩)
theorem take0_spec {p : Nat} {R : RepM} (fit : R.Fit) (hlast : R.rds.last < 100000000) (from_ : Int) (f : FrameM) (now : Int) (hi1 : -9223372036854775808 ≤ f.entry.index) (hi2 : f.entry.index ≤ 9223372036854775807) :
  Tri Tryz.prog 17 [.pointer (some ⟨p, 0, none⟩), .int .i64 from_, .agg (fgC f mem0).toArray, .int .i64 now] Fr w [repH p R] (fun v L => sent (takeR R from_ f [] now).2 v L [repH p (takeR R from_ f [] now).1]) :=
 take_spec Fr w fit hlast from_ f (ma := none) (mc := 0) (ms := []) RwIn.nil yy now hi1 hi2
theorem HOpn.one {α : Type} {c : α → List Value} {n : Nat} (el : Nat) (a : Option Addr) (cap : Nat) (x : α) : HOpn (ι := Nat × List Value) (slH el n a [x].length cap (flat c [x])) (fun y => a = some ⟨y.1, 0, none⟩) (fun y => [pt y.1 (c x ++ y.2) el]) := by
 intro w ids h hn
 obtain ⟨y, hy, ids', h1, h2, h3⟩ := HOpn.sl el n a 1 cap (flat c [x]) w ids h hn
 cases y with
 | none => obtain ⟨_, _, _, h, _⟩ := hy; cases h
 | some y =>
  obtain ⟨b, rest⟩ := y
  obtain ⟨_, _, h7, _⟩ := hy
  refine ⟨(b, rest), h7, ids', ?_, h2, h3⟩
  simp only [flat_cons, flat_nil, List.append_nil] at h1
  exact h1
theorem rw_one {α : Type} {c : α → List Value} {n : Nat} (hc : ∀ x, (c x).length = n) {Fr : Nat → Prop} {w : World} {b : Nat} {x : α} {rest : List Value} (h : Blk Fr w b (c x ++ rest)) : RwIn c n Fr w (some ⟨b, 0, none⟩) [x] :=
 RwIn.blk h fun i y hy => by
  cases i with
  | zero =>
   simp only [List.getElem?_cons_zero, Option.some.injEq] at hy
   subst hy
   rw [Nat.zero_mul, Nat.add_zero, List.drop_zero, List.take_append_of_le_length (by rw [hc]; exact NR _), List.take_of_length_le (by rw [hc]; exact NR _)]
  | succ i => simp at hy
def ldC : ConfM := ⟨2, 2, 0, [], 0, 4, 0, 0, 0, 0, 0, 0⟩
def ldR : RepM := newR (fitM ldC) 0 false
def ldG : FrameM := { FrameM.zero with kind := 5, epoch := 1, grant := 4 }
def ldK : FrameM := { FrameM.zero with kind := 5, epoch := 1, index := 1, grant := 5, have_ := 1 }
def ldQ : FrameM := { putM 0 2 1 1 with op := ⟨1, ⟨#[107]⟩, ⟨#[]⟩, 0⟩ }
def ld1 : RepM × List SndM := takeR ldR 32 (putM 0 1 1 1) [] 0
def ld2 : RepM × List SndM := stepR ld1.1 0
def ld3 : RepM × List SndM := takeR ld2.1 1 ldG [] 0
def ldA : RepM × List SndM := stepR ld3.1 0
def ldB : RepM × List SndM := takeR ldA.1 32 (putM 0 1 2 1) [] 0
def ldD : RepM × List SndM := takeR ldB.1 1 ldK [] 0
def ldE : RepM × List SndM := takeR ldD.1 32 (putM 0 1 3 1) [] 0
def ldH : RepM × List SndM := takeR ldE.1 32 ldQ [] 0
theorem ld_ok : newOkB (fitM ldC) 0 ∧ ldR.whole = true ∧ ld1.2.length = 0 ∧ ld2.2.length = 0 ∧ ld3.2.length = 0 ∧ ldD.2.length = 0 := by decide +kernel
theorem ld_to : toB ldA.2 1 4 = true ∧ toB ldB.2 32 3 = true ∧ toB ldE.2 32 2 = true ∧ toB ldH.2 32 3 = true := by decide +kernel
theorem ld_get : (ldA.2.getD 0 (0, FrameM.zero)).2.entry.index = 1 ∧ (ldB.2.getD 0 (0, FrameM.zero)).2.reason = 6 ∧ (ldE.2.getD 0 (0, FrameM.zero)).2.res.version = 1 ∧ (ldH.2.getD 0 (0, FrameM.zero)).2.reason = 4 := by decide +kernel
theorem ld_last : ldR.rds.last = 0 ∧ ld2.1.rds.last = 0 ∧ ldA.1.rds.last = 0 ∧ ldB.1.rds.last = 0 ∧ ldD.1.rds.last = 0 ∧ ldE.1.rds.last = 0 := by decide +kernel
theorem toB_one {S : List SndM} {a b : Int} (h : toB S a b = true) : ∃ x, S = [x] := by
 unfold toB at h
 split at h
 ·exact ⟨_, Z⟩
 ·cases h
theorem led_spec : Tri Tryz.prog 12 [] Fr w [] (fun v L => v = .bool true ∧ L = []) := by
 obtain ⟨o1, o2, o3, o4, o5, o6⟩ := ld_ok
 obtain ⟨t1, t2, t3, t4⟩ := ld_to
 obtain ⟨g1, g2, g3, g4⟩ := ld_get
 obtain ⟨q1, q2, q3, q4, q5, q6⟩ := ld_last
 obtain ⟨xA, eA⟩ := toB_one t1
 obtain ⟨xB, eB⟩ := toB_one t2
 obtain ⟨xE, eE⟩ := toB_one t3
 obtain ⟨xH, eH⟩ := toB_one t4
 rw [eA] at g1 t1; rw [eB] at g2 t2; rw [eE] at g3 t3; rw [eH] at g4 t4
 have f0 : ldR.Fit := newR_fit (fit_idem ldC) 0 false
 have f1 : ld1.1.Fit := takeR_fit f0 (by rw [q1]; decide) _ _ _ _
 have f2 : ld2.1.Fit := stepR_fit f1 _
 have f3 : ld3.1.Fit := takeR_fit f2 (by rw [q2]; decide) _ _ _ _
 have fA : ldA.1.Fit := stepR_fit f3 _
 have fB : ldB.1.Fit := takeR_fit fA (by rw [q3]; decide) _ _ _ _
 have fD : ldD.1.Fit := takeR_fit fB (by rw [q4]; decide) _ _ _ _
 have fE : ldE.1.Fit := takeR_fit fD (by rw [q5]; decide) _ _ _ _
 refine TF 112 Tryz.func12 Z ym tabOk Z Z ?_
 refine xep ?_
 refine xhm ?_
 refine VG (VI (LB (pv := [(0, .int .i64 2), (1, .int .i64 2), (5, .int .i64 4)]) (ldC.cells none 0) Z Z Z ym Z) ?_)
 refine VG (VK (Lc := []) (fun Fr w _ _ _ => rfit_spec Fr w ldC none 0 ⟨fun h => absurd Z h⟩) Z Z ?_)
 rintro _ _ ⟨a, cap, ha, hcap, rfl, rfl⟩
 refine VG (VK (Lc := []) (fun Fr w _ _ h2 => new_spec Fr w (fitM ldC) a cap (ints_sl (h2.at_ 0 Z)) ha hcap 0 false) Z Z ?_)
 intro v L hv
 rw [if_pos o1] at hv
 obtain ⟨p, rfl, rfl⟩ := hv
 show VO _ _ _ _ _ [repH p ldR, intH a cap (fitM ldC).qs] _
 refine VO.ent (L' := [repH p ldR]) (IP 0 Z Imp.nil).ent ?_
 refine xdy ?_
 refine VG (VY 17 false Z Z ?_)
 refine xel ?_
 refine VG (VV (fun Fr w hF hs hS => whole_spec Fr w (hS.at_ 0 Z)) Z ?_)
 refine xel ?_
 refine VG (VY 22 false Z (by rw [o2]; rfl) ?_)
 refine xel ?_
 refine VG (VO.callV (fun Fr w => put_spec Fr w 0 1 1 1) Z ?_)
 refine xel ?_
 refine VG (VK (Lc := [repH p ldR]) (Lr := []) (fun Fr w _ _ _ => take0_spec Fr w f0 (by rw [q1]; decide) 32 (putM 0 1 1 1) 0 yy yy) Z Z ?_)
 rintro _ _ ⟨a1, c1, rfl, rfl⟩
 show VO _ _ _ _ _ [repH p ld1.1, slH sndT 30 a1 ld1.2.length c1 (flat sndC ld1.2)] _
 refine VO.ent (L' := [repH p ld1.1]) (IP 0 Z Imp.nil).ent ?_
 refine xel ?_
 refine VG (VY 29 false Z (by show ((ld1.2.length : Int) != 0) = false; rw [o3]; rfl) ?_)
 refine xel ?_
 refine VG (VK (Lc := [repH p ld1.1]) (Lr := []) (fun Fr w _ _ _ => step_spec Fr w f1.ok 0) Z Z ?_)
 rintro _ _ ⟨a2, c2, rfl, rfl⟩
 show VO _ _ _ _ _ [repH p ld2.1, slH sndT 30 a2 ld2.2.length c2 (flat sndC ld2.2)] _
 refine VO.ent (L' := [repH p ld2.1]) (IP 0 Z Imp.nil).ent ?_
 refine xel ?_
 refine VG (VY 35 false Z (by show ((ld2.2.length : Int) != 0) = false; rw [o4]; rfl) ?_)
 refine xel ?_
 refine VG (VI (LB (pv := [(0, .int .i64 5), (1, .int .i64 1), (13, .int .i64 4)]) (fgC ldG mem0) Z Z Z ym Z) ?_)
 refine VG (VK (Lc := [repH p ld2.1]) (Lr := []) (fun Fr w _ _ _ => take0_spec Fr w f2 (by rw [q2]; decide) 1 ldG 0 yy yy) Z Z ?_)
 rintro _ _ ⟨a3, c3, rfl, rfl⟩
 show VO _ _ _ _ _ [repH p ld3.1, slH sndT 30 a3 ld3.2.length c3 (flat sndC ld3.2)] _
 refine VO.ent (L' := [repH p ld3.1]) (IP 0 Z Imp.nil).ent ?_
 refine xel ?_
 refine VC.condNE (i := (ld3.2.length : Int)) (j := 0) Z (fun h => absurd (by rw [o5]; rfl) h) (fun _ => CK ?_)
 refine xdy ?_
 refine VG (VK (Lc := [repH p ld3.1]) (Lr := []) (fun Fr w _ _ _ => step_spec Fr w f3.ok 0) Z Z ?_)
 rintro _ _ ⟨aA, cA, rfl, rfl⟩
 show VO _ _ _ _ _ [repH p ldA.1, slH sndT 30 aA ldA.2.length cA (flat sndC ldA.2)] _
 refine xdy ?_
 refine VG (VO.callV (fun Fr w => put_spec Fr w 0 1 2 1) Z ?_)
 refine xdy ?_
 refine VG (VK (Lc := [repH p ldA.1]) (fun Fr w _ _ _ => take0_spec Fr w fA (by rw [q3]; decide) 32 (putM 0 1 2 1) 0 yy yy) Z Z ?_)
 rintro _ _ ⟨aB, cB, rfl, rfl⟩
 show VO _ _ _ _ _ [repH p ldB.1, slH sndT 30 aB ldB.2.length cB (flat sndC ldB.2), slH sndT 30 aA ldA.2.length cA (flat sndC ldA.2)] _
 refine xdy ?_
 refine VG (VI (LB (pv := [(0, .int .i64 5), (1, .int .i64 1), (12, .int .i64 1), (13, .int .i64 5), (14, .int .i64 1)]) (fgC ldK mem0) Z Z Z ym Z) ?_)
 refine VG (VK (Lc := [repH p ldB.1]) (fun Fr w _ _ _ => take0_spec Fr w fB (by rw [q4]; decide) 1 ldK 0 yy yy) Z Z ?_)
 rintro _ _ ⟨aD, cD, rfl, rfl⟩
 show VO _ _ _ _ _ [repH p ldD.1, slH sndT 30 aD ldD.2.length cD (flat sndC ldD.2), slH sndT 30 aB ldB.2.length cB (flat sndC ldB.2), slH sndT 30 aA ldA.2.length cA (flat sndC ldA.2)] _
 refine xdy ?_
 refine VG (VO.callV (fun Fr w => put_spec Fr w 0 1 3 1) Z ?_)
 refine xdy ?_
 refine VG (VK (Lc := [repH p ldD.1]) (fun Fr w _ _ _ => take0_spec Fr w fD (by rw [q5]; decide) 32 (putM 0 1 3 1) 0 yy yy) Z Z ?_)
 rintro _ _ ⟨aE, cE, rfl, rfl⟩
 show VO _ _ _ _ _ [repH p ldE.1, slH sndT 30 aE ldE.2.length cE (flat sndC ldE.2), slH sndT 30 aD ldD.2.length cD (flat sndC ldD.2), slH sndT 30 aB ldB.2.length cB (flat sndC ldB.2), slH sndT 30 aA ldA.2.length cA (flat sndC ldA.2)] _
 refine xdy ?_
 refine VG (VO.callV (fun Fr w => put_spec Fr w 0 2 1 1) Z ?_)
 refine xdy ?_
 refine VG (VO.alloc Z fun fb => ?_)
 refine VG (VT (vs := fgC (putM 0 2 1 1) mem0) (cs' := fgC (putM 0 2 1 1) mem0) 0 Z Z Z Z (NR _) Z Z Z ?_)
 refine xdy ?_
 refine VG (VI (LB (pv := [(0, .int .i64 1), (1, .string ⟨#[107]⟩)]) ldQ.op.cells Z Z Z Z Z) ?_)
 refine VG (VT (vs := ldQ.op.cells) (cs' := fgC ldQ mem0) 0 Z Z Z Z (by show 7 + 4 ≤ 29; omega) Z Z Z ?_)
 refine xdy ?_
 refine VG (VL 0 (fgC ldQ mem0) Z Z Z Z ?_)
 refine VO.ent (L' := [repH p ldE.1, slH sndT 30 aE ldE.2.length cE (flat sndC ldE.2), slH sndT 30 aD ldD.2.length cD (flat sndC ldD.2), slH sndT 30 aB ldB.2.length cB (flat sndC ldB.2), slH sndT 30 aA ldA.2.length cA (flat sndC ldA.2)]) (pkZ [1, 1, 1, 1, 1]).ent ?_
 refine VG (VK (Lc := [repH p ldE.1]) (fun Fr w _ _ _ => take0_spec Fr w fE (by rw [q6]; decide) 32 ldQ 0 yy yy) Z Z ?_)
 rintro _ _ ⟨aH, cH, rfl, rfl⟩
 show VO _ _ _ _ _ [repH p ldH.1, slH sndT 30 aH ldH.2.length cH (flat sndC ldH.2), slH sndT 30 aE ldE.2.length cE (flat sndC ldE.2), slH sndT 30 aD ldD.2.length cD (flat sndC ldD.2), slH sndT 30 aB ldB.2.length cB (flat sndC ldB.2), slH sndT 30 aA ldA.2.length cA (flat sndC ldA.2)] _
 refine xgk ?_
 rw [eA, eB, eE, eH]
 refine VC.opn 5 Z (HOpn.one sndT aA cA xA) ?_
 rintro ⟨bA, rA⟩ rfl
 refine VC.opn 5 Z (HOpn.one sndT aB cB xB) ?_
 rintro ⟨bB, rB⟩ rfl
 refine VC.opn 4 Z (HOpn.one sndT aE cE xE) ?_
 rintro ⟨bE, rE⟩ rfl
 refine VC.opn 4 Z (HOpn.one sndT aH cH xH) ?_
 rintro ⟨bH, rH⟩ rfl
 show VC _ _ _ [pt bH (sndC xH ++ rH) sndT, pt bE (sndC xE ++ rE) sndT, pt bB (sndC xB ++ rB) sndT, pt bA (sndC xA ++ rA) sndT, repH p ldH.1, slH sndT 30 aD ldD.2.length cD (flat sndC ldD.2)] _
 refine xdy ?_
 refine VG (VV (fun Fr w hF hs hS => to_spec Fr w (rw_one sndC_len (hS.blk 3 Z)) ybs 1 4) Z ?_)
 refine xdy ?_
 refine VG (VY 61 true Z t1 ?_)
 refine xel ?_
 refine xkx ?_
 refine xky ?_
 refine VG (VY 70 true Z (by rw [show xA.2.entry.index = 1 from g1]; rfl) ?_)
 refine xel ?_
 refine VG (VV (fun Fr w hF hs hS => to_spec Fr w (rw_one sndC_len (hS.blk 2 Z)) ybs 32 3) Z ?_)
 refine xel ?_
 refine VG (VY 74 true Z t2 ?_)
 refine xel ?_
 refine xkx ?_
 refine xky ?_
 refine VG (VY 82 true Z (by rw [show xB.2.reason = 6 from g2]; rfl) ?_)
 refine xel ?_
 refine VG (VY 87 true Z (by show ((ldD.2.length : Int) == 0) = true; rw [o6]; rfl) ?_)
 refine xel ?_
 refine VG (VV (fun Fr w hF hs hS => to_spec Fr w (rw_one sndC_len (hS.blk 1 Z)) ybs 32 2) Z ?_)
 refine xel ?_
 refine VG (VY 91 true Z t3 ?_)
 refine xel ?_
 refine xkx ?_
 refine xky ?_
 refine VG (VY 100 true Z (by rw [show xE.2.res.version = 1 from g3]; rfl) ?_)
 refine xel ?_
 refine VG (VV (fun Fr w hF hs hS => to_spec Fr w (rw_one sndC_len (hS.blk 0 Z)) ybs 32 3) Z ?_)
 refine xel ?_
 refine VG (VY 104 true Z t4 ?_)
 refine xel ?_
 refine xkx ?_
 refine xky ?_
 exact CR (Ret.bool 0 Z Z (by rw [show xH.2.reason = 4 from g4]; rfl) Imp.nil.ent ⟨rfl, Z⟩)
end Rep
namespace Conf
open Go Vg T Sched
attribute [local irreducible] VO VC VA
def win (x lo hi : Int) : Bool := decide (lo ≤ x) && decide (x ≤ hi)
theorem within_spec (x lo hi : Int) : Tri Tryz.prog 209 [.int .i64 x, .int .i64 lo, .int .i64 hi] Fr w [] (fun v L => v = .bool (win x lo hi) ∧ L = []) := by
 refine TF 15 Tryz.func209 Z ym tabOk Z Z ?_
 refine xdy ?_
 refine VG (VO.split 10 Z Z (fun h1 => ?_) (fun h1 => ?_))
 ·refine xdy ?_
  exact CR (Ret.bool 6 Z Z (by simp only [win, h1, Bool.true_and]) ER ⟨rfl, Z⟩)
 ·refine xdy ?_
  exact CR (Ret.bool 6 Z Z (by simp only [win, h1, Bool.false_and]) ER ⟨rfl, Z⟩)
def pre1 (c : ConfM) : Bool := win c.nodes 1 6 && win c.chain 1 c.nodes && win c.clients 1 6 && win c.qs.length 1 4
def pre2 (c : ConfM) : Bool := pre1 c && c.qs.all fun q => win q 96 65536
def rokM (c : ConfM) : Bool := pre2 c && win c.queue 1 16 && win c.window 1 16 && win c.reads 1 16 && win c.link 4 64 && win c.patience 4 64 && win c.timeout 4 64 && win c.budget 0 16 && win c.refill 1 1099511627776
theorem near_iff {x lo hi : Int} (h : lo ≤ hi) : x = near x lo hi ↔ win x lo hi = true := by
 simp only [win, Bool.and_eq_true, decide_eq_true_eq]
 exact ⟨fun e => by have := near_in (x := x) h; omega, fun ⟨h1, h2⟩ => (near_same h1 h2).symm⟩
theorem qFit_iff {qs : List Int} : qs = qFit qs ↔ win qs.length 1 4 = true ∧ (qs.all fun q => win q 96 65536) = true := by
 constructor
 ·intro e
  have hl := qFit_len qs
  rw [← e] at hl
  refine ⟨by simp [win]; omega, ?_⟩
  rw [List.all_eq_true]
  intro q hq
  rw [e] at hq
  obtain ⟨y, _, rfl⟩ := List.mem_map.1 hq
  have := near_in (x := y) (lo := 96) (hi := 65536) yd
  simp [win, qNear, this]
 ·rintro ⟨h1, h2⟩
  simp only [win, Bool.and_eq_true, decide_eq_true_eq] at h1
  have e : qs.take 4 = qs := List.take_of_length_le yd
  have hne : qs ≠ [] := fun e => by rw [e] at h1; simp at h1
  unfold qFit qFirst
  rw [e, if_neg hne]
  rw [List.all_eq_true] at h2
  have : ∀ x ∈ qs, qNear x = x := fun x hx => ((near_iff yd).2 (h2 x hx)).symm
  rw [List.map_congr_left this]; simp
theorem rok_iff (c : ConfM) : c = fitM c ↔ rokM c = true := by
 simp only [rokM, pre2, pre1, Bool.and_eq_true]
 rw [← near_iff (x := c.nodes) yd, ← near_iff (x := c.clients) yd, ← near_iff (x := c.queue) yd, ← near_iff (x := c.window) yd, ← near_iff (x := c.reads) yd, ← near_iff (x := c.link) yd, ← near_iff (x := c.patience) yd, ← near_iff (x := c.timeout) yd, ← near_iff (x := c.budget) yd, ← near_iff (x := c.refill) yd]
 constructor
 ·intro e
  have hn : c.nodes = near c.nodes 1 6 := congrArg ConfM.nodes e
  have hn1 := near_in (x := c.nodes) (lo := 1) (hi := 6) yd
  have hch : c.chain = near c.chain 1 (near c.nodes 1 6) := congrArg ConfM.chain e
  rw [← hn] at hch hn1
  have hqs : c.qs = qFit c.qs := congrArg ConfM.qs e
  obtain ⟨hq1, hq2⟩ := qFit_iff.1 hqs
  exact ⟨⟨⟨⟨⟨⟨⟨⟨⟨⟨⟨⟨hn, (near_iff hn1.1).1 hch⟩, congrArg ConfM.clients e⟩, hq1⟩, hq2⟩, congrArg ConfM.queue e⟩, congrArg ConfM.window e⟩, congrArg ConfM.reads e⟩, congrArg ConfM.link e⟩, congrArg ConfM.patience e⟩, congrArg ConfM.timeout e⟩, congrArg ConfM.budget e⟩, congrArg ConfM.refill e⟩
 ·rintro ⟨⟨⟨⟨⟨⟨⟨⟨⟨⟨⟨⟨hn, hch⟩, hcl⟩, hq1⟩, hq2⟩, h4⟩, h5⟩, h6⟩, h7⟩, h8⟩, h9⟩, h10⟩, h11⟩
  have hn1 := near_in (x := c.nodes) (lo := 1) (hi := 6) yd
  have hch2 : c.chain = near c.chain 1 (near c.nodes 1 6) := by
   rw [← hn] at hn1 ⊢; exact (near_iff hn1.1).2 hch
  exact conf_ext hn hch2 hcl (qFit_iff.2 ⟨hq1, hq2⟩) h4 h5 h6 h7 h8 h9 h10 h11
theorem rcheck_spec (c : ConfM) (a : Option Addr) (cap : Nat) (hq : IntsIn Fr w a c.qs) (hl : c.qs.length ≤ 1000) : Tri Tryz.prog 156 [.agg (c.cells a cap).toArray] Fr w []
  (fun v L => v = .int .i64 (checkM c) ∧ L = []) := by
 refine TF 85 Tryz.func156 Z ym tabOk Z Z ?_
 refine CS (CG (VG (VB (vs := c.cells a cap) Z fun x => VG (VN ?_))))
 refine VC.meet (σ := Bool) (fun b => [(1, pV x), (3, .bool b)]) (fun _ => [pt x (c.cells a cap) 24]) (fun b => b = pre1 c) ?_ ?_
 ·refine CG ?_
  refine zpq ?_
  refine VG (VO.split 8 Z Z (fun h0 => ?_) (fun h0 => ?_))
  rotate_left
  ·refine VG (VY 15 false Z Z ?_)
   refine VG (VY 20 false Z Z ?_)
   refine VG (VN ⟨false, ?_, sbZ, ER⟩)
   show false = pre1 c
   simp only [pre1, h0, Bool.and_false, Bool.false_and]
  refine zpq ?_
  refine VG (VO.split 15 Z Z (fun h1 => ?_) (fun h1 => ?_))
  rotate_left
  ·refine VG (VY 20 false Z Z ?_)
   refine VG (VN ⟨false, ?_, sbZ, ER⟩)
   show false = pre1 c
   simp only [pre1, h1, Bool.and_false, Bool.false_and]
  refine zpq ?_
  refine VG (VO.split 20 Z Z (fun h2 => ?_) (fun h2 => ?_))
  rotate_left
  ·refine VG (VN ⟨false, ?_, sbZ, ER⟩)
   show false = pre1 c
   simp only [pre1, h2, Bool.and_false, Bool.false_and]
  refine zpq ?_
  refine VG (VN ⟨win c.qs.length 1 4, ?_, sbZ, ER⟩)
  show _ = pre1 c
  simp only [pre1, h0, h1, h2, Bool.true_and]
 rintro b0 hb0
 refine VC.meet (σ := Bool) (fun b => [(1, pV x), (3, .bool b)]) (fun _ => [pt x (c.cells a cap) 24]) (fun b => b = pre2 c) ?_ ?_
 ·refine xdy ?_
  refine VC.loop (σ := Nat × Bool) (fun y => [(1, pV x), (3, .bool y.2), (4, .int .i64 y.1)]) (fun _ => [pt x (c.cells a cap) 24]) (fun y => y.1 ≤ c.qs.length ∧ y.2 = (pre1 c && (c.qs.take y.1).all fun q => win q 96 65536)) (fun y => c.qs.length - y.1) (0, b0) ⟨Nat.zero_le _, by simp [hb0]⟩ sbZ ER ?_
  rintro ⟨i, b⟩ ⟨hi, hb⟩
  dsimp only at hi hb ⊢
  refine xdy ?_
  refine CP Z (fun h1 => CK ?_) (fun h1 => CX ?_)
  ·have hi2 : i < c.qs.length := by omega
   obtain ⟨qb, qo, hqa, hFq, hcq⟩ := hq.at_ (fun e => by rw [e] at hi2; simp at hi2)
   have hy := GE hi2
   generalize c.qs[i] = y at hy
   have hsl : some (Value.slice a c.qs.length cap) = some (Value.slice (some ⟨qb, qo, none⟩) c.qs.length cap) := by rw [hqa]
   have hall : ((c.qs.take (i + 1)).all fun q => win q 96 65536) = (((c.qs.take i).all fun q => win q 96 65536) && win y 96 65536) := by rw [List.take_add_one, hy, List.all_append]; simp
   refine xdy ?_
   refine VG (VO.split 34 Z Z (fun h2 => ?_) (fun h2 => VG (VN ?_)))
   ·subst h2
    refine xdy ?_
    refine VG (VI (light_idx i hsl Z Z Z Z Z hi2) ?_)
    refine VG (VD Z Z (RdL.rd (v := .int .i64 y) hFq (by show w.cell? ⟨qb, qo + i * 1, none⟩ = _; rw [Nat.mul_one]; exact hcq i y hy)) ?_)
    refine VG (VO.callV (fun Fr w => within_spec Fr w _ _ _) Z (VG (VN ?_)))
    refine zpg ?_
    refine ⟨(i + 1, win y 96 65536), ⟨hi2, ?_⟩, by dsimp only; omega, sbZ, ER⟩
    dsimp only
    rw [hall, ← Bool.and_assoc, ← hb, Bool.true_and]
   ·subst h2
    refine zpg ?_
    refine ⟨(i + 1, false), ⟨hi2, ?_⟩, by dsimp only; omega, sbZ, ER⟩
    dsimp only
    rw [hall, ← Bool.and_assoc, ← hb, Bool.false_and]
  ·have hi2 : i = c.qs.length := by omega
   subst hi2
   rw [List.take_length] at hb
   exact ⟨b, hb, sbZ, ER⟩
 rintro b1 hb1
 refine VC.meet (σ := Bool) (fun b => [(3, .bool b)]) (fun _ => []) (fun b => b = rokM c) ?_ ?_
 rotate_left
 ·rintro b hb
  refine CS (CS (CG (VG (VN ?_))))
  refine VC.condN Z (fun h => ?_) (fun h => CK ?_)
  ·have hc : ¬ c = fitM c := fun e => by rw [(rok_iff c).1 e] at hb; rw [hb] at h; cases h
   refine xdy ?_
   exact CR (Ret.int 2 Z Z (by rw [checkM, if_neg hc]) ER ⟨rfl, Z⟩)
  ·have hc : c = fitM c := (rok_iff c).2 (by rw [← hb]; exact h)
   refine xdy ?_
   exact CR (Ret.int 2 Z Z (by rw [checkM, if_pos hc]) ER ⟨rfl, Z⟩)
 refine CG ?_
 refine VG (VO.split 43 Z Z (fun h0 => ?_) (fun h0 => ?_))
 rotate_left
 ·refine VG (VY 48 false Z Z ?_)
  refine VG (VY 53 false Z Z ?_)
  refine VG (VY 58 false Z Z ?_)
  refine zqu ?_
  refine zrf ?_
  refine VG (VN ⟨false, ?_, sbZ, Imp.nil.ent⟩)
  show false = rokM c
  rw [rokM, ← hb1, h0]; simp only [Bool.false_and]
 refine zpq ?_
 refine VG (VO.split 48 Z Z (fun h1 => ?_) (fun h1 => ?_))
 rotate_left
 ·refine VG (VY 53 false Z Z ?_)
  refine VG (VY 58 false Z Z ?_)
  refine zqu ?_
  refine zrf ?_
  refine VG (VN ⟨false, ?_, sbZ, Imp.nil.ent⟩)
  show false = rokM c
  simp only [rokM, h1, Bool.and_false, Bool.false_and]
 refine zpq ?_
 refine VG (VO.split 53 Z Z (fun h2 => ?_) (fun h2 => ?_))
 rotate_left
 ·refine VG (VY 58 false Z Z ?_)
  refine zqu ?_
  refine zrf ?_
  refine VG (VN ⟨false, ?_, sbZ, Imp.nil.ent⟩)
  show false = rokM c
  simp only [rokM, h2, Bool.and_false, Bool.false_and]
 refine zpq ?_
 refine VG (VO.split 58 Z Z (fun h3 => ?_) (fun h3 => ?_))
 rotate_left
 ·refine zqu ?_
  refine zrf ?_
  refine VG (VN ⟨false, ?_, sbZ, Imp.nil.ent⟩)
  show false = rokM c
  simp only [rokM, h3, Bool.and_false, Bool.false_and]
 refine zpq ?_
 refine VG (VO.split 63 Z Z (fun h4 => ?_) (fun h4 => ?_))
 rotate_left
 ·refine xhr ?_
  refine zrf ?_
  refine VG (VN ⟨false, ?_, sbZ, Imp.nil.ent⟩)
  show false = rokM c
  simp only [rokM, h4, Bool.and_false, Bool.false_and]
 refine zpq ?_
 refine VG (VO.split 68 Z Z (fun h5 => ?_) (fun h5 => ?_))
 rotate_left
 ·refine zrf ?_
  refine VG (VN ⟨false, ?_, sbZ, Imp.nil.ent⟩)
  show false = rokM c
  simp only [rokM, h5, Bool.and_false, Bool.false_and]
 refine zpq ?_
 refine VG (VO.split 73 Z Z (fun h6 => ?_) (fun h6 => ?_))
 rotate_left
 ·refine xlb ?_
  refine VG (VN ⟨false, ?_, sbZ, Imp.nil.ent⟩)
  show false = rokM c
  simp only [rokM, h6, Bool.and_false, Bool.false_and]
 refine zpq ?_
 refine VG (VO.split 78 Z Z (fun h7 => ?_) (fun h7 => ?_))
 rotate_left
 ·refine VG (VN ⟨false, ?_, sbZ, Imp.nil.ent⟩)
  show false = rokM c
  simp only [rokM, h7, Bool.and_false, Bool.false_and]
 refine zpq ?_
 refine VG (VN ⟨win c.refill 1 1099511627776, ?_, sbZ, Imp.nil.ent⟩)
 show _ = rokM c
 rw [rokM, ← hb1, h0]
 simp only [h1, h2, h3, h4, h5, h6, h7, Bool.true_and]
end Conf
namespace Nd
open Go Vg T Api Kv Ch Lg Rd Win Adm Sched Conf Rep
attribute [local irreducible] VO VC VA
section
variable {c : ChM} {a : Option Addr} {cap : Nat}
theorem rat_spec (h : RwIn memC 2 Fr w a c.ms) (hl : c.ms.length ≤ 1000000) (n : Int) : Tri Tryz.prog 158 [.agg (c.cells a cap).toArray, .int .i64 n] Fr w [] (fun v L => v = .int .i64 (placeOf c.ms n) ∧ L = []) := by
 refine TF 22 Tryz.func158 Z ym tabOk Z Z ?_
 refine CS (CG (VG (VB (vs := c.cells a cap) Z fun b => ?_)))
 refine xdy ?_
 refine VC.loop (σ := Nat) (fun i => [(1, .int .i64 n), (2, pV b), (5, .int .i64 i)]) (fun _ => [pt b (c.cells a cap) chT]) (fun i => i ≤ c.ms.length ∧ ∀ j m, j < i → c.ms[j]? = some m → m.1 ≠ n) (fun i => c.ms.length - i) 0
  ⟨Nat.zero_le _, fun j m hj => by omega⟩ sbZ ER ?_
 rintro i ⟨hi, hno⟩
 refine xdy ?_
 refine CP (p := (i : Int) < (c.ms.length : Int)) Z (fun h1 => CK ?_) (fun h1 => CX ?_)
 rotate_left
 ·refine xdy ?_
  exact CR (Ret.tmp 4 Z Z Imp.nil.ent ⟨by rw [place_miss (fun j m hj hm => hno j m yd hm)], Z⟩)
 have hi2 : i < c.ms.length := by omega
 obtain ⟨m, hm⟩ : ∃ m, c.ms[i]? = some m := ⟨_, GE hi2⟩
 obtain ⟨mb, mo, hma, ra, rc⟩ := RwIn.rd (X := ⟨Tryz.prog, tab, tabOk, 22, Fr, w⟩) h hm
 subst hma
 refine zpu ?_
 refine xdy ?_
 refine xgg ?_
 refine xdy ?_
 refine CE (i := m.1) (j := n) Z (fun h2 => ?_) (fun h2 => CK ?_)
 ·refine xdy ?_
  exact CR (Ret.tmp 4 Z Z Imp.nil.ent ⟨by rw [place_hit hm h2 hno], Z⟩)
 ·refine zpg ?_
  refine ⟨i + 1, ⟨hi2, fun j x hj hx => ?_⟩, by dsimp only; omega, sbZ, ER⟩
  by_cases hji : j = i
  ·subst hji; rw [hm] at hx; cases hx; exact h2
  ·exact hno j x yd hx
theorem rchk_spec (h : RwIn memC 2 Fr w a c.ms) (hl : c.ms.length ≤ 1000000) : Tri Tryz.prog 115 [.agg (c.cells a cap).toArray] Fr w [] (fun v L => v = .int .i64 (chE c) ∧ L = []) := by
 refine TF 82 Tryz.func115 Z ym tabOk Z Z ?_
 refine CS (CG (VG (VB (vs := c.cells a cap) Z fun b => ?_)))
 refine VG (VN (CS (CS ?_)))
 refine VC.meetS (σ := Unit) (fun _ => [(1, pV b), (25, .bool (!headOk c))]) (fun _ => [pt b (c.cells a cap) chT]) (fun _ => True) ?_ ?_
 ·refine xdy ?_
  by_cases h1 : c.epoch < 1
  ·refine VG (VY 9 true Z (DT h1) ?_)
   refine xel ?_
   refine VG (VY 14 true Z Z ?_)
   refine xel ?_
   refine xfx ?_
   refine xel ?_
   exact xfy
  refine VG (VY 9 false Z (DF h1) ?_)
  refine xel ?_
  by_cases h2 : 1099511627776 < c.epoch
  ·refine VG (VY 14 true Z (DT h2) ?_)
   refine xel ?_
   refine xfx ?_
   refine xel ?_
   exact xfy
  refine VG (VY 14 false Z (DF h2) ?_)
  refine xel ?_
  by_cases h3 : (c.ms.length : Int) = 0
  ·refine VG (VY 20 true Z (by rw [beq_iff_eq]; exact h3) ?_)
   refine xel ?_
   exact ⟨(), trivial, SC Z (Sub.bl Z yac (SN _)), ER⟩
  refine VG (VY 20 false Z ybt ?_)
  refine xel ?_
  refine ⟨(), trivial, SC Z (Sub.bl Z ?_ (SN _)), ER⟩
  have e1 : decide (1 ≤ c.epoch) = true := DT yd
  have e2 : decide (c.epoch ≤ 1099511627776) = true := DT yd
  have e3 : decide (1 ≤ c.ms.length) = true := DT yd
  rw [headOk, e1, e2, e3]
  by_cases h4 : 6 < (c.ms.length : Int)
  ·rw [DT h4, DF (show ¬ c.ms.length ≤ 6 by omega)]; rfl
  ·rw [DF h4, DT (show c.ms.length ≤ 6 by omega)]; rfl
 rintro _ -
 refine VC.condN Z (fun hh => ?_) (fun hh => CK ?_)
 ·refine xdy ?_
  exact CR (Ret.tmp 2 Z Z Imp.nil.ent ⟨by rw [chE, chOk, hh]; rfl, Z⟩)
 have hmv : ∀ (i : Nat), memOk c i = false → i < c.ms.length → chOk c = false := fun i h1 h2 => by
  have : (List.range c.ms.length).all (memOk c) = false := by
   rw [List.all_eq_false]; exact ⟨i, List.mem_range.2 h2, by rw [h1]; simp⟩
  rw [chOk, this]; simp
 refine xdy ?_
 refine VC.loop (σ := Nat) (fun i => [(1, pV b), (3, .int .i64 i)]) (fun _ => [pt b (c.cells a cap) chT]) (fun i => i ≤ c.ms.length ∧ (List.range i).all (memOk c) = true) (fun i => c.ms.length - i) 0
  ⟨Nat.zero_le _, rfl⟩ sbZ ER ?_
 rintro i ⟨hi, hall⟩
 refine xdy ?_
 refine CP (p := (i : Int) < (c.ms.length : Int)) Z (fun h1 => CK ?_) (fun h1 => CX ?_)
 rotate_left
 ·obtain rfl : i = c.ms.length := by omega
  refine xdy ?_
  by_cases hd : c.drain = -1
  ·refine VG (VY 75 false Z (by rw [bne_eq_false_iff_eq]; exact hd) ?_)
   refine zpn ?_
   refine xdy ?_
   exact CR (Ret.tmp 2 Z Z Imp.nil.ent ⟨by rw [chE, chOk, hh, hall, drainOk, DT hd]; rfl, Z⟩)
  ·refine VG (VY 75 true Z (by rw [bne_iff_ne]; exact hd) ?_)
   refine xfz ?_
   refine xel ?_
   refine VG (VV (fun Fr w hF hs hS => rat_spec Fr w (h.of hF hs) hl c.drain) Z ?_)
   refine xel ?_
   refine CE (i := placeOf c.ms c.drain) (j := -1) Z (fun h2 => ?_) (fun h2 => CK ?_)
   ·refine xdy ?_
    exact CR (Ret.tmp 2 Z Z Imp.nil.ent ⟨by rw [chE, chOk, hh, hall, drainOk, DF hd, DF yd]; rfl, Z⟩)
   ·have hp : 0 ≤ placeOf c.ms c.drain := by rcases place_range c.ms c.drain with h3 | ⟨k, m, h3, _⟩ <;> omega
    refine xdy ?_
    exact CR (Ret.tmp 2 Z Z Imp.nil.ent ⟨by rw [chE, chOk, hh, hall, drainOk, DT hp]; simp, Z⟩)
 have hi2 : i < c.ms.length := by omega
 obtain ⟨m, hm⟩ : ∃ m, c.ms[i]? = some m := ⟨_, GE hi2⟩
 have hmo : memOk c i = (nodeB m.1 && (decide (placeOf c.ms m.1 = i) && (decide (1 ≤ m.2) && decide (m.2 ≤ c.epoch)))) := by rw [memOk, hm]
 obtain ⟨mb, mo, hma, ra, rc⟩ := RwIn.rd (X := ⟨Tryz.prog, tab, tabOk, 82, Fr, w⟩) h hm
 have hma' := hma
 rw [hma]
 refine xdx ?_
 refine zpu ?_
 refine xfk ?_
 refine VG (VO.alloc Z fun xb => ?_)
 refine VG (VT (vs := memC m) (cs' := memC m) 0 Z Z Z Z (NR _) Z Z Z (VG (VN ?_)))
 refine CS (CS ?_)
 refine VC.meetS (σ := Unit) (fun _ => [(1, pV b), (3, .int .i64 i), (4, pV xb), (57, .bool (!(nodeB m.1 && (decide (1 ≤ m.2) && decide (m.2 ≤ c.epoch)))))]) (fun _ => [pt xb (memC m) memT, pt b (c.cells (some ⟨mb, mo, none⟩) cap) chT]) (fun _ => True) ?_ ?_
 ·refine CG ?_
  refine xlc ?_
  by_cases h2 : m.1 < 0
  ·refine VG (VY 41 true Z (DT h2) ?_)
   refine xgf ?_
   refine VG (VY 46 true Z Z ?_)
   refine xgf ?_
   refine VG (VY 51 true Z Z ?_)
   refine xgf ?_
   exact ⟨(), trivial, SC Z (SC Z (SC Z (Sub.bl Z (by rw [nodeB, DF (show ¬ 0 ≤ m.1 by omega)]; rfl) (SN _)))), ER⟩
  refine VG (VY 41 false Z (DF h2) ?_)
  refine xgf ?_
  by_cases h3 : 5 < m.1
  ·refine VG (VY 46 true Z (DT h3) ?_)
   refine xgf ?_
   refine VG (VY 51 true Z Z ?_)
   refine xgf ?_
   exact ⟨(), trivial, SC Z (SC Z (SC Z (Sub.bl Z (by rw [nodeB, DF (show ¬ m.1 < 6 by omega)]; simp) (SN _)))), ER⟩
  refine VG (VY 46 false Z (DF h3) ?_)
  refine xgf ?_
  have hn : nodeB m.1 = true := by rw [nodeB, DT (show 0 ≤ m.1 by omega), DT (show m.1 < 6 by omega)]; rfl
  by_cases h4 : m.2 < 1
  ·refine VG (VY 51 true Z (DT h4) ?_)
   refine xgf ?_
   exact ⟨(), trivial, SC Z (SC Z (SC Z (Sub.bl Z (by rw [DF (show ¬ 1 ≤ m.2 by omega)]; simp) (SN _)))), ER⟩
  refine VG (VY 51 false Z (DF h4) ?_)
  refine xgf ?_
  refine ⟨(), trivial, SC Z (SC Z (SC Z (Sub.bl Z ?_ (SN _)))), ER⟩
  rw [hn, DT (show 1 ≤ m.2 by omega)]
  by_cases h5 : c.epoch < m.2
  ·rw [DT h5, DF (show ¬ m.2 ≤ c.epoch by omega)]; rfl
  ·rw [DF h5, DT (show m.2 ≤ c.epoch by omega)]; rfl
 rintro _ -
 refine VC.condN Z (fun h2 => ?_) (fun h2 => CK ?_)
 ·refine xdy ?_
  refine CR (Ret.tmp 2 Z Z Imp.nil.ent ⟨?_, Z⟩)
  rw [chE, hmv i ?_ hi2]; rfl
  rw [hmo]
  cases hn : nodeB m.1 with
  | false => rfl
  | true =>
   rw [hn, Bool.true_and] at h2
   rw [h2, Bool.and_false, Bool.and_false]
 simp only [Bool.and_eq_true] at h2
 refine xdy ?_
 refine VC.loop (σ := Nat) (fun k => [(1, pV b), (3, .int .i64 i), (4, pV xb), (5, .int .i64 k)]) (fun _ => [pt xb (memC m) memT, pt b (c.cells (some ⟨mb, mo, none⟩) cap) chT]) (fun k => k ≤ i ∧ ∀ j x, j < k → c.ms[j]? = some x → x.1 ≠ m.1) (fun k => i - k) 0
  ⟨Nat.zero_le _, fun j x hj => by omega⟩ sbZ ER ?_
 rintro k ⟨hk, hno⟩
 refine xdy ?_
 refine CP (p := (k : Int) < (i : Int)) Z (fun h5 => CK ?_) (fun h5 => CX ?_)
 rotate_left
 ·obtain rfl : k = i := by omega
  refine zpg ?_
  refine ⟨k + 1, ⟨hi2, ?_⟩, by dsimp only; omega, sbZ, (IP 1 Z Imp.nil).ent⟩
  rw [List.range_succ, List.all_append, hall]
  show (true && (memOk c k && true)) = true
  rw [hmo, place_hit hm rfl hno, h2.1, h2.2.1, h2.2.2]
  simp
 obtain ⟨x, hx⟩ : ∃ x, c.ms[k]? = some x := ⟨_, GE yd⟩
 obtain ⟨nb, no, hna, sa, sc⟩ := RwIn.rd (X := ⟨Tryz.prog, tab, tabOk, 82, Fr, w⟩) h hx
 rw [hma] at hna
 obtain ⟨rfl, rfl⟩ : mb = nb ∧ mo = no := by cases hna; exact ⟨rfl, rfl⟩
 refine xdx ?_
 refine CS ?_
 refine CD (ts 0 9 .nil) ym yq ?_
 refine xgz ?_
 refine VA.go (AI Z (light_idx k Z Z Z Z Z yd yd) ?_)
 refine xgz ?_
 refine VA.go (VA.load Z Z Z (sc _ _ 0 _ Z Z) ?_)
 refine xgz ?_
 refine CE (i := x.1) (j := m.1) Z (fun h6 => ?_) (fun h6 => CK ?_)
 ·refine xdy ?_
  refine CR (Ret.tmp 2 Z Z Imp.nil.ent ⟨?_, Z⟩)
  have : placeOf c.ms m.1 ≠ i := by
   rw [place_hit hx h6 hno]; omega
  rw [chE, hmv i (by rw [hmo, DF this]; simp) hi2]; rfl
 ·refine zpg ?_
  refine ⟨k + 1, ⟨by omega, fun j y hj hy => ?_⟩, by dsimp only; omega, sbZ, ER⟩
  by_cases hjk : j = k
  ·subst hjk; rw [hx] at hy; cases hy; exact h6
  ·exact hno j y yd hy
theorem rsince_spec (h : RwIn memC 2 Fr w a c.ms) (hl : c.ms.length ≤ 1000000) (n : Int) : Tri Tryz.prog 79 [.agg (c.cells a cap).toArray, .int .i64 n] Fr w [] (fun v L => v = .tuple #[.int .i64 (sinceOf c n).1, .bool (sinceOf c n).2] ∧ L = []) := by
 have hp := place_range c.ms n
 refine TF 23 Tryz.func79 Z ym tabOk Z Z ?_
 refine CS (CG (VG (VB (vs := c.cells a cap) Z fun b => ?_)))
 refine zpj ?_
 refine xld ?_
 refine zpj ?_
 refine xle ?_
 refine xdy ?_
 cases hc : chOk c with
 | false =>
  refine VG (VY 13 true Z yad ?_)
  refine zpl ?_
  exact xgm
 | true =>
 refine VG (VY 13 false Z yad ?_)
 refine xel ?_
 refine CP Z (fun h1 => ?_) (fun h1 => CK ?_)
 ·refine xdy ?_
  exact xgn
 ·rcases hp with hp | ⟨k, m, h2, h3, h4, h5⟩
  ·omega
  obtain ⟨mb, mo, hma, ra, rc⟩ := RwIn.rd (X := ⟨Tryz.prog, tab, tabOk, 23, Fr, w⟩) h h4
  subst hma
  refine xdy ?_
  refine VG (VI (light_idx k Z Z Z Z Z h2 h3) ?_)
  refine xdy ?_
  refine xgo ?_
  refine xdy ?_
  exact xgp
end
theorem rfirst_spec (c : ConfM) (a : Option Addr) (cap : Nat) (hq : IntsIn Fr w a c.qs) (hl : c.qs.length ≤ 1000) : Tri Tryz.prog 75 [.agg (c.cells a cap).toArray] Fr w []
  (fun v L => if c = fitM c then ∃ a' c', v = .tuple #[.agg ((firstC c).cells a' c').toArray, .int .i64 0] ∧ L = [slH memT 2 a' (firstC c).ms.length c' (flat memC (firstC c).ms)] else v = .tuple #[.agg (chZ.cells none 0).toArray, .int .i64 2] ∧ L = []) := by
 refine TF 24 Tryz.func75 Z ym tabOk Z Z ?_
 refine CS (CG (VG (VB (vs := c.cells a cap) Z fun x => VG (VO.alloc Z fun d => ?_))))
 refine xgb ?_
 refine xgj ?_
 refine VG (VV (fun Fr w hF hs _ => rcheck_spec Fr w c a cap (ints_of hq hF hs) hl) Z ?_)
 refine xdy ?_
 refine VC.condNE Z (fun h1 => ?_) (fun h1 => CK ?_)
 ·have hc : ¬ c = fitM c := fun e => h1 yba
  have hc2 : checkM c = 2 := by rw [checkM, if_neg hc]
  refine xdy ?_
  refine xkl ?_
  refine xdy ?_
  refine xkm ?_
  refine xdy ?_
  refine xgy ?_
  rw [if_neg hc]; exact ⟨rfl, rfl⟩
 have hc : c = fitM c := by
  apply Decidable.byContradiction
  intro hc
  rw [checkM, if_neg hc] at h1
  cases h1
 have hb := conf_bounds hc
 refine xhm ?_
 refine VG (VO.buildSlice (n := 0) (pv := []) [] Z Z Z Z yy Z fun nb => ?_)
 refine xgk ?_
 refine xdy ?_
 refine VC.loop (σ := Nat × Option Addr × Nat) (fun y => [(1, pV x), (2, pV d), (4, .slice y.2.1 y.1 y.2.2), (5, .int .i64 y.1)])
  (fun y => [slH memT 2 y.2.1 y.1 y.2.2 (flat memC (firstMs y.1)), pt d (chZ.cells none 0) chT, pt x (c.cells a cap) 24])
  (fun y => (y.1 : Int) ≤ c.chain) (fun y => c.chain.toNat - y.1) (0, some ⟨nb, 0, none⟩, 0)
  ybn sbZ (Imp.sl (rest := []) rfl (NR _) rfl (pkZ [0, 0, 0])).ent ?_
 rintro ⟨i, a', c'⟩ hi
 dsimp only at hi ⊢
 refine xgc ?_
 refine CP (p := (i : Int) < c.chain) Z (fun h1 => CK ?_) (fun h1 => CX ?_)
 ·refine CS (VC.block (CG ?_))
  refine xkn ?_
  refine VG (VO.buildSlice (n := 1) (pv := [(0, .agg (memC ((i : Int), 1)).toArray)]) (memC ((i : Int), 1)) Z Z Z Z yy (fill_one Z Z Z) fun nb => ?_)
  refine VG (VO.append (m := 1) (news := memC ((i : Int), 1)) 1 Z Z Z Z Z Z Z (RdRow.pt 0 Z Z Z) Z (small_bytes (k := 101) yd yy) yd fun a2 c2 hc2 => ?_)
  refine zpg ?_
  refine ⟨(i + 1, a2, c2), by dsimp only; omega, by dsimp only; omega, sbZ, ?_⟩
  dsimp only
  rw [firstMs_succ, flat_append, flat_cons, flat_nil, List.append_nil]
  exact (pkZ [0, 1, 1]).ent
 ·obtain rfl : i = c.chain.toNat := by omega
  have e0 : (firstC c).ms.length = c.chain.toNat := firstMs_len _
  have e1 : (firstC c).cells a' c' = [.int .i64 1, .slice a' c.chain.toNat c', .int .i64 (-1)] := by rw [ChM.cells, e0]; rfl
  refine xhm ?_
  refine VG (VI (LB (pv := [(0, .int .i64 1), (1, .slice a' c.chain.toNat c'), (2, .int .i64 (-1))]) [.int .i64 1, .slice a' c.chain.toNat c', .int .i64 (-1)] Z Z Z ym Z) ?_)
  refine xko ?_
  refine xdy ?_
  refine CR (Ret.cellTmp 2 3 Z Z Z (RdL.many 1 Z Z) Z (IP 0 Z Imp.nil).ent ?_)
  rw [if_pos hc, e0]; exact ⟨a', c', by rw [e1]; rfl, rfl⟩
end Nd
namespace Api
open Go Vg T
attribute [local irreducible] VO VC VA
theorem op_bad2 {o : OpM} (h : opBad o = true) : opCheck o = 2 := by simp [opCheck, h]
theorem rcheck_spec (o : OpM) : Tri Tryz.prog 167 [.agg o.cells.toArray] Fr w [] (fun v L => v = .int .i64 (opCheck o) ∧ L = []) := by
 refine TF 61 Tryz.func167 Z ym tabOk Z Z ?_
 refine CS (CG (VG (VB (vs := o.cells) Z (fun b => VG (VN ?_)))))
 refine xdy ?_
 refine VG (VO.split 6 Z Z (fun h1 => ?_) (fun h1 => ?_))
 ·have h1 := of_decide_eq_true h1
  refine xdy ?_
  refine VG (VY 11 true Z Z (VG (VY 17 true Z Z (VG (VY 22 true Z Z (VG (VN (VC.condT Z ?_))))))))
  refine xdy ?_
  exact CR (Ret.int 2 Z Z (op_bad2 (by simp [opBad, h1])).symm Imp.nil.ent ⟨rfl, Z⟩)
 have h1 := of_decide_eq_false h1
 refine VG (VO.ld 0 Z Z Z Z (VG (VO.split 11 Z Z (fun h2 => ?_) (fun h2 => ?_))))
 ·have h2 := of_decide_eq_true h2
  refine VG (VY 17 true Z Z (VG (VY 22 true Z Z (VG (VN (VC.condT Z ?_))))))
  refine xdy ?_
  exact CR (Ret.int 2 Z Z (op_bad2 (by simp [opBad, h2])).symm Imp.nil.ent ⟨rfl, Z⟩)
 have h2 := of_decide_eq_false h2
 refine VG (VO.ld 0 Z Z Z Z (VG (VO.split 17 Z Z (fun h3 => ?_) (fun h3 => ?_))))
 ·have h3 : o.key.size = 0 := by have := eq_of_beq h3; omega
  refine VG (VY 22 true Z Z (VG (VN (VC.condT Z ?_))))
  refine xdy ?_
  exact CR (Ret.int 2 Z Z (op_bad2 (by simp [opBad, h3])).symm Imp.nil.ent ⟨rfl, Z⟩)
 have h3 : o.key.size ≠ 0 := by have := ne_of_beq_false h3; omega
 refine VG (VO.ld 0 Z Z Z Z (VG (VO.split 22 Z Z (fun h4 => ?_) (fun h4 => ?_))))
 ·have h4 := of_decide_eq_true h4
  refine xhj ?_
  refine xdy ?_
  exact CR (Ret.int 2 Z Z (op_bad2 (by simp [opBad, h4])).symm Imp.nil.ent ⟨rfl, Z⟩)
 have h4 := of_decide_eq_false h4
 refine VG (VO.ld 0 Z Z Z Z (VG (VN (CP Z (fun h5 => ?_) (fun h5 => CK ?_)))))
 ·refine xdy ?_
  exact CR (Ret.int 2 Z Z (op_bad2 (by simp [opBad, h5])).symm Imp.nil.ent ⟨rfl, Z⟩)
 refine CS (VC.meet (σ := Bool) (fun s => [(1, pV b), (50, .bool s)]) (fun _ => [pt b o.cells 40]) (fun s => s = opBad o) ?_ ?_)
 ·refine CG (VG (VO.ld 0 Z Z Z Z (VG (VO.split 30 Z Z (fun h6 => ?_) (fun h6 => ?_)))))
  ·have h6 := of_decide_eq_true h6
   refine VG (VO.ld 0 Z Z Z Z (VG (VO.split 35 Z Z (fun h7 => ?_) (fun h7 => ?_))))
   ·have h7 : o.kind ≠ 4 := by simpa using h7
    refine VG (VO.offU Z Z Z ?_)
    iterate 7 refine VG (VO.offU rfl rfl rfl ?_)
    refine VG (VN ⟨true, ?_, sbZ, ER⟩)
    have : o.version ≠ 0 := by omega
    simp [opBad, h7, this]
   ·have h7 : o.kind = 4 := by simpa using h7
    refine VG (VO.ld 0 Z Z Z Z (VG (VO.split 40 Z Z (fun h8 => ?_) (fun h8 => ?_))))
    ·refine VG (VO.ld 0 Z Z Z Z (VG (VY 44 false Z (by rw [h7]; rfl) (VG (VO.ld 0 Z Z Z Z (VG (VN ⟨false, ?_, SC Z (SC (by rw [h7]; rfl) (SN _)), ER⟩)))))))
     simp [opBad, h1, h2, h3, h4, h5, h7]
    ·iterate 3 refine VG (VO.offU rfl rfl rfl ?_)
     refine VG (VN ⟨false, ?_, sbZ, ER⟩)
     simp [opBad, h1, h2, h3, h4, h5, h7]
  ·have h6 := of_decide_eq_false h6
   have hv : o.version = 0 := by omega
   refine VG (VY 35 false Z Z (VG (VO.ld 0 Z Z Z Z (VG (VO.split 40 Z Z (fun h8 => ?_) (fun h8 => ?_))))))
   ·have h8 : o.value.size ≠ 0 := by have := of_decide_eq_true h8; omega
    refine VG (VO.ld 0 Z Z Z Z (VG (VO.split 44 Z Z (fun h9 => ?_) (fun h9 => ?_))))
    ·have h9 : o.kind = 1 := by simpa using h9
     refine VG (VN ⟨true, ?_, sbZ, ER⟩)
     simp [opBad, h8, h9]
    ·have h9 : o.kind ≠ 1 := by simpa using h9
     refine VG (VO.ld 0 Z Z Z Z (VG (VN ⟨(o.kind == 3), ?_, sbZ, ER⟩)))
     have hk : o.kind = 2 ∨ o.kind = 3 ∨ o.kind = 4 := by omega
     rcases hk with hk | hk | hk <;> simp [opBad, hk, hv, h3, h8]
   ·have h8 : o.value.size = 0 := by have := of_decide_eq_false h8; omega
    iterate 3 refine VG (VO.offU rfl rfl rfl ?_)
    refine VG (VN ⟨false, ?_, sbZ, ER⟩)
    have h1' : ¬ o.kind < 1 := h1
    simp [opBad, h1, h2, h3, h4, h5, hv, h8]
 intro s hs
 subst hs
 refine CC Z (fun hb => ?_) (fun hb => CK ?_)
 ·refine xdy ?_
  exact CR (Ret.int 2 Z Z (op_bad2 hb).symm Imp.nil.ent ⟨rfl, Z⟩)
 refine xdy ?_
 refine VG (VO.split 55 Z Z (fun h6 => ?_) (fun h6 => ?_))
 ·have h6 := of_decide_eq_true h6
  refine xhj ?_
  refine xdy ?_
  exact CR (Ret.int 2 Z Z ybu Imp.nil.ent ⟨rfl, Z⟩)
 have h6 := of_decide_eq_false h6
 refine VG (VO.ld 0 Z Z Z Z (VG (VN (CP Z (fun h7 => ?_) (fun h7 => CK ?_)))))
 ·refine xdy ?_
  exact CR (Ret.int 2 Z Z ybu Imp.nil.ent ⟨rfl, Z⟩)
 refine xdy ?_
 refine CR (Ret.int 2 Z Z ?_ Imp.nil.ent ⟨rfl, Z⟩)
 have e : opLong o = false := by simp [opLong]; omega
 simp [opCheck, e, hb]
theorem cat_size (s t : ByteArray) : (s ++ t).size = s.size + t.size := by simp
theorem rcost_spec (o : OpM) : Tri Tryz.prog 212 [.agg o.cells.toArray] Fr w [] (fun v L => v = .int .i64 (opCost o) ∧ L = []) := by
 refine TF 13 Tryz.func212 Z ym tabOk Z Z ?_
 refine CS (CG (VG (VB (vs := o.cells) Z (fun b => VG (VN ?_)))))
 refine CS (CS (CG (VG (VL 0 o.cells Z Z Z Z (VG (VO.callV (fun Fr w => rcheck_spec Fr w o) Z (VG (VN ?_))))))))
 refine VC.condNE Z (fun h1 => ?_) (fun h1 => ?_)
 ·refine xdy ?_
  exact xea
 ·refine CK ?_
  have hl : opLong o = false := by
   cases hl : opLong o with
   | false => rfl
   | true => unfold opCheck at h1; rw [hl] at h1; split at h1 <;> simp at h1
  have hk : o.key.size ≤ 16 ∧ o.value.size ≤ 64 := by simp [opLong] at hl; omega
  refine xdy ?_
  refine VG (VI (light_cat Z Z yd) ?_)
  refine VG (VP Z Z ?_ ?_ ?_)
  ·omega
  ·rw [cat_size]; omega
  refine xdy ?_
  exact CR (Ret.int 2 Z Z (by rw [cat_size]; simp [opCost, h1]; omega) Imp.nil.ent ⟨rfl, Z⟩)
end Api
namespace Vg
open Go
section
variable {α : Type} {c : α → List Value} {n : Nat}
def fromA (a : Option Addr) (cap lo sz : Nat) : Option Addr := a.map fun q => if cap = lo then q else q.add (lo * sz)
theorem light_from {X : Cx} {e : Env} {T : TypeId} {x y : Operand} {tt te : TI} {el len cap : Nat} {a : Option Addr} {k : IntKind} {j : Int} (lo : Nat) (hx : ev e x = some (.slice a len cap)) (hy : ev e y = some (.int k j))
  (hT : tyLook X.tab T = some tt) (hu : tt.und = .slice el) (hE : tyLook X.tab el = some te) (hlo : j = lo) (h1 : lo ≤ len) (h2 : len ≤ cap) :
  Light X (.slice T x (some y) none none) e (.slice (fromA a cap lo te.size) (len - lo) (cap - lo)) := by
 intro ac hac dst ty pos after guard w
 have hd := und_slice (X.ok.look hT) hu
 obtain ⟨i2, hi2, hs2, _, _⟩ := (X.ok.look hE).info'
 subst hlo
 cases a with
 | none => simp [execOp, hac.ev hx, hac.ev hy, Instr.sliceAt, Instr.slice, Instr.sliceBounds, Instr.sliceBound, asIntOf, run_underlying hd, h1, h2, run_size hi2, fromA]
 | some a =>
  by_cases h : cap = lo
  ·subst h
   simp [execOp, hac.ev hx, hac.ev hy, Instr.sliceAt, Instr.slice, Instr.sliceBounds, Instr.sliceBound, asIntOf, run_underlying hd, h1, h2, run_size hi2, fromA]
  ·simp [execOp, hac.ev hx, hac.ev hy, Instr.sliceAt, Instr.slice, Instr.sliceBounds, Instr.sliceBound, asIntOf, run_underlying hd, h1, h2, run_size hi2, fromA, hs2, h]
theorem RL.rdHead {X : Cx} {L : List HP} {t : Nat} {r : RL α} (hc : ∀ x, (c x).length = n) (h : r.Ok c n) (i : Nat) (hL : L[i]? = some (r.h t)) {hi : Nat} (hh : hi ≤ r.xs.length) : RdRow X L (.slice r.addr hi r.cap) n hi (flat c (r.xs.take hi)) := by
 have hlen : (r.xs.take hi).length = hi := by simp; omega
 by_cases hx : r.xs = []
 ·have h0 : hi = 0 := by rw [hx] at hh; simpa using hh
  exact ⟨by simp [hx, h0, flat], .inl ⟨r.addr, r.cap, Z, h0⟩⟩
 ·obtain ⟨b, off, h1, h2, h3⟩ := h.at_ hx
  have hp : L[i]? = some (pt b r.cells t) := by rw [hL, RL.h, h1]
  rw [h2]
  have := flat_rows (c := c) (n := n) (xs := r.xs.take hi) (cells := r.cells) (off := off) (fun i x hx => h3 i x (by
   rw [List.getElem?_take] at hx
   split at hx
   ·exact hx
   ·cases hx))
  rw [hlen] at this
  exact RdRow.pt i hp this (by rw [flat_len hc, hlen])
theorem RL.rdFrom {X : Cx} {L : List HP} {t : Nat} {r : RL α} (hc : ∀ x, (c x).length = n) (h : r.Ok c n) (i : Nat) (hL : L[i]? = some (r.h t)) {lo : Nat} (hh : lo ≤ r.xs.length) : RdRow X L (.slice (fromA r.addr r.cap lo n) (r.xs.length - lo) (r.cap - lo)) n (r.xs.length - lo) (flat c (r.xs.drop lo)) := by
 have hlen : (r.xs.drop lo).length = r.xs.length - lo := by simp
 by_cases hx : r.xs.length = lo
 ·have h0 : r.xs.drop lo = [] := List.drop_eq_nil_of_le yd
  exact ⟨by simp [h0, hx, flat], .inl ⟨_, _, Z, by omega⟩⟩
 ·obtain ⟨b, off, h1, h2, h3⟩ := h.at_ (fun e => hx (by rw [e] at hh ⊢; simp at hh; simp [hh]))
  have hp : L[i]? = some (pt b r.cells t) := by rw [hL, RL.h, h1]
  have hcap : ¬ r.cap = lo := by have := h.room; omega
  have ha : fromA r.addr r.cap lo n = some ⟨b, off + lo * n, Option.none⟩ := by rw [h2, fromA, Option.map_some, if_neg hcap, Addr.add_mid]
  rw [ha]
  have := flat_rows (c := c) (n := n) (xs := r.xs.drop lo) (cells := r.cells) (off := off + lo * n) (fun i x hx => by
   rw [List.getElem?_drop] at hx
   rw [← h3 (lo + i) x hx, Nat.add_mul, Nat.add_assoc])
  rw [hlen] at this
  exact RdRow.pt i hp this (by rw [flat_len hc, hlen])
end
theorem light_ltStr {X : Cx} {e : Env} {T yt : TypeId} {x y : Operand} {a b : ByteArray} (hx : ev e x = some (.string a)) (hy : ev e y = some (.string b)) : Light X (.binOp .lss T x y yt) e (.bool (Op.bytesLess a.toList b.toList)) := by
 intro a' ha dst ty pos after guard w
 simp [execOp, ha.ev hx, ha.ev hy, eqGuard, binOp, Op.stringOp]
end Vg
namespace Rk
open Go Vg T Api Kv Lg Rd
attribute [local irreducible] VO VC VA
abbrev RC := ByteArray × (ByteArray × Int)
def rcC (x : RC) : List Value := [.string x.1, .string x.2.1, .int .i64 x.2.2]
theorem rcC_len (x : RC) : (rcC x).length = 3 := rfl
theorem rcC_one (x : RC) : (rcC x).all Value.oneCell' = true := rfl
abbrev rcT : TypeId := 258
def wo (l : List RC) (k : ByteArray) : List RC := l.filter fun x => !decide (x.1 = k)
theorem wo_len (l : List RC) (k : ByteArray) : (wo l k).length ≤ l.length := List.length_filter_le _ _
theorem mGet_wo (l : List RC) (k j : ByteArray) : mGet (wo l k) j = if k = j then none else mGet l j := by
 induction l with
 | nil => simp [wo, mGet]
 | cons x l ih =>
  obtain ⟨a, v⟩ := x
  unfold wo at ih ⊢
  by_cases h : a = k
  ·subst h
   rw [List.filter_cons_of_neg ya, ih]
   by_cases h2 : a = j
   ·rw [if_pos h2, if_pos h2]
   ·rw [if_neg h2, if_neg h2, mGet, if_neg h2]
  ·rw [List.filter_cons_of_pos yc]
   by_cases h2 : a = j
   ·subst h2
    rw [mGet, if_pos rfl, if_neg (fun e => h e.symm), mGet, if_pos rfl]
   ·rw [mGet, if_neg h2, ih, mGet, if_neg h2]
theorem mGet_app (l m : List RC) (j : ByteArray) : mGet (l ++ m) j = match mGet l j with | some v => some v | none => mGet m j := by
 induction l with
 | nil => rfl
 | cons x l ih =>
  obtain ⟨a, v⟩ := x
  rw [List.cons_append, mGet, mGet]
  by_cases h : a = j
  ·rw [if_pos h, if_pos h]
  ·rw [if_neg h, if_neg h, ih]
theorem mGet_ins (l : List RC) (x : RC) (n : Nat) (j : ByteArray) : mGet ((wo l x.1).take n ++ [x] ++ (wo l x.1).drop n) j = if x.1 = j then some x.2 else mGet l j := by
 have h1 := mGet_wo l x.1 j
 have h2 := mGet_app ((wo l x.1).take n) ((wo l x.1).drop n) j
 rw [List.take_append_drop] at h2
 rw [List.append_assoc, mGet_app]
 by_cases h : x.1 = j
 ·rw [if_pos h] at h1 ⊢
  rw [h1] at h2
  cases hg : mGet ((wo l x.1).take n) j with
  | none =>
   show mGet (x :: (wo l x.1).drop n) j = _
   obtain ⟨a, v⟩ := x
   rw [mGet, if_pos h]
  | some v => rw [hg] at h2; cases h2
 ·rw [if_neg h] at h1 ⊢
  rw [h1] at h2
  rw [h2]
  cases hg : mGet ((wo l x.1).take n) j with
  | none =>
   show mGet (x :: (wo l x.1).drop n) j = _
   obtain ⟨a, v⟩ := x
   rw [mGet, if_neg h]
  | some v => rfl
theorem ba_eq {a b : ByteArray} (h : a.toList = b.toList) : a = b := by
 rw [ByteArray.toList_eq, ByteArray.toList_eq] at h
 apply ByteArray.ext
 exact Array.toList_inj.1 h
section
variable {a : Option Addr} {cap : Nat} {l : List RC}
theorem look_spec (h : RwIn rcC 3 Fr w a l) (hl : l.length ≤ 1000000) (k : ByteArray) (at_ : Int) : Tri Tryz.prog 215 [.slice a l.length cap, .string k, .int .i64 at_] Fr w [] (fun v L => v = .agg (resC (kvLook l k at_)).toArray ∧ L = []) := by
 refine TF 35 Tryz.func215 Z ym tabOk Z Z ?_
 refine CS (CG (VG (VO.alloc Z fun d => ?_)))
 refine xlf ?_
 refine VC.loop (σ := Nat) (fun i => [(0, .slice a l.length cap), (1, .string k), (2, .int .i64 at_), (6, pV d), (7, .int .i64 i)]) (fun _ => [pt d (resC resZ) 42]) (fun i => i ≤ l.length ∧ mGet l k = mGet (l.drop i) k) (fun i => l.length - i) 0
  ⟨Nat.zero_le _, rfl⟩ sbZ ER ?_
 rintro i ⟨hi, hg⟩
 refine xlf ?_
 refine CP (p := (i : Int) < (l.length : Int)) Z (fun h1 => CK ?_) (fun h1 => CX ?_)
 rotate_left
 ·obtain rfl : i = l.length := by omega
  rw [List.drop_length] at hg
  refine xhm ?_
  refine VG (VI (LB (pv := [(0, .int .i64 2), (3, .int .i64 at_)]) (resC ⟨2, nilB, 0, at_⟩) Z Z Z ym Z) ?_)
  refine VG (VT (vs := resC ⟨2, nilB, 0, at_⟩) (cs' := resC ⟨2, nilB, 0, at_⟩) 0 Z Z Z Z (NR _) Z Z Z ?_)
  refine xlf ?_
  exact CR (Ret.cell 6 Z Z Z (RdL.many 0 Z Z) Imp.nil.ent ⟨by rw [kvLook, hg]; rfl, Z⟩)
 have hi2 : i < l.length := by omega
 obtain ⟨x, hx⟩ : ∃ x, l[i]? = some x := ⟨_, GE hi2⟩
 have hd : l.drop i = x :: l.drop (i + 1) := by
  rw [List.drop_eq_getElem_cons hi2]
  rw [GE hi2] at hx
  rw [Option.some.inj hx]
 obtain ⟨mb, mo, hma, ra, rc⟩ := RwIn.rd (X := ⟨Tryz.prog, tab, tabOk, 35, Fr, w⟩) h hx
 rw [hma]
 refine xdx ?_
 refine xhm ?_
 refine xfv ?_
 refine xlf ?_
 refine xgg ?_
 refine xlf ?_
 obtain ⟨xk, xv, xn⟩ := x
 refine CC Z (fun h2 => ?_) (fun h2 => CK ?_)
 ·have h2 : xk = k := ba_eq (beq_iff_eq.1 h2)
  refine CS (CD (ts 0 12 (.only 12 .nil)) ym yq ?_)
  refine xhl ?_
  refine xeh ?_
  refine VA.go (VA.load Z Z Z (rc _ _ 1 _ Z Z) ?_)
  refine xhl ?_
  refine xeh ?_
  refine VA.go (VA.load Z Z Z (rc _ _ 2 _ Z Z) ?_)
  refine VA.go (AI Z (LB (pv := [(0, .int .i64 1), (1, .string xv), (2, .int .i64 xn), (3, .int .i64 at_)]) (resC ⟨1, xv, xn, at_⟩) Z Z Z ym Z) ?_)
  refine VA.go (AT (vs := resC ⟨1, xv, xn, at_⟩) (cs' := resC ⟨1, xv, xn, at_⟩) 0 Z Z Z Z Z (NR _) Z Z Z (by (try refine Pd.st ?_);(repeat (first|exact Pd.nil|exact Pd.fnil|refine Pd.inner ?_|refine Pd.skip yq ?_|refine zf (zo 0 Z Z) ?_|refine zf (zm 0 Z Z) ?_|refine zf (RdL.blk (rc _ _ 1 _ Z Z) Z) ?_|refine zf (RdL.blk (rc _ _ 2 _ Z Z) Z) ?_|refine zf ((rc _ _ 1 _ Z Z)) ?_|refine zf ((rc _ _ 2 _ Z Z)) ?_|refine zc (zo 0 Z Z) ?_|refine zc (zm 0 Z Z) ?_|refine zc (RdL.blk (rc _ _ 1 _ Z Z) Z) ?_|refine zc (RdL.blk (rc _ _ 2 _ Z Z) Z) ?_|refine zc ((rc _ _ 1 _ Z Z)) ?_|refine zc ((rc _ _ 2 _ Z Z)) ?_|refine Pd.fconsM (MpL.one 0 Z) ?_|refine Pd.fconsM ((rc _ _ 1 _ Z Z)) ?_|refine Pd.fconsM ((rc _ _ 2 _ Z Z)) ?_|refine Pd.consM (MpL.one 0 Z) ?_|refine Pd.consM ((rc _ _ 1 _ Z Z)) ?_|refine Pd.consM ((rc _ _ 2 _ Z Z)) ?_))) ?_)
  refine xeh ?_
  exact CR (Ret.cell 6 Z Z Z (RdL.many 0 Z Z) Imp.nil.ent ⟨by rw [kvLook, hg, hd, mGet, if_pos h2]; rfl, Z⟩)
 ·have h2 : ¬ xk = k := fun e => by
   subst e
   simp at h2
  refine zpm ?_
  rw [← hma]
  refine ⟨i + 1, ⟨hi2, by rw [hg, hd, mGet, if_neg h2]⟩, by dsimp only; omega, sbZ, ER⟩
theorem without_spec (h : RwIn rcC 3 Fr w a l) (hl : l.length ≤ 1000000) (k : ByteArray) : Tri Tryz.prog 232 [.slice a l.length cap, .string k] Fr w []
  (fun v L => ∃ a' c', v = .slice a' (wo l k).length c' ∧ L = [slH rcT 3 a' (wo l k).length c' (flat rcC (wo l k))]) := by
 refine TF 28 Tryz.func232 Z ym tabOk Z Z ?_
 refine xlf ?_
 refine VC.loop (σ := Nat × Option Addr × Nat) (fun y => [(0, .slice a l.length cap), (1, .string k), (5, .slice y.2.1 (wo (l.take y.1) k).length y.2.2), (6, .int .i64 y.1)]) (fun y => [slH rcT 3 y.2.1 (wo (l.take y.1) k).length y.2.2 (flat rcC (wo (l.take y.1) k))]) (fun y => y.1 ≤ l.length) (fun y => l.length - y.1) (0, none, 0)
  (Nat.zero_le _) sbZ (Imp.slNil Imp.nil).ent ?_
 rintro ⟨i, a1, c1⟩ hi
 dsimp only at hi ⊢
 refine xlf ?_
 refine CP (p := (i : Int) < (l.length : Int)) Z (fun h1 => CK ?_) (fun h1 => CX ?_)
 rotate_left
 ·obtain rfl : i = l.length := by omega
  rw [List.take_length]
  refine xlf ?_
  exact CR (Ret.tmp 4 Z Z ER ⟨a1, c1, Z, Z⟩)
 have hi2 : i < l.length := by omega
 obtain ⟨x, hx⟩ : ∃ x, l[i]? = some x := ⟨_, GE hi2⟩
 have ht : l.take (i + 1) = l.take i ++ [x] := by rw [List.take_add_one, hx]; rfl
 have hwl := wo_len (l.take i) k
 have htl := List.length_take_le i l
 obtain ⟨mb, mo, hma, ra, rc⟩ := RwIn.rd (X := ⟨Tryz.prog, tab, tabOk, 28, Fr, w⟩) h hx
 refine CS ?_
 refine VC.meetS (σ := Option Addr × Nat) (fun y => [(0, .slice a l.length cap), (1, .string k), (5, .slice y.1 (wo (l.take (i + 1)) k).length y.2), (6, .int .i64 i)]) (fun y => [slH rcT 3 y.1 (wo (l.take (i + 1)) k).length y.2 (flat rcC (wo (l.take (i + 1)) k))]) (fun _ => True) ?_ ?_
 rotate_left
 ·rintro ⟨a2, c2⟩ -
  refine zpm ?_
  exact ⟨(i + 1, a2, c2), hi2, by dsimp only; omega, sbZ, ER⟩
 refine xjt ?_
 rw [hma]
 refine xhm ?_
 refine xfv ?_
 refine xlf ?_
 refine xgg ?_
 refine xlf ?_
 refine CC Z (fun h2 => ?_) (fun h2 => CK ?_)
 ·have h2 : ¬ x.1 = k := fun e => by
   rw [e] at h2
   simp at h2
  have e : wo (l.take (i + 1)) k = wo (l.take i) k ++ [x] := by rw [ht, wo, List.filter_append]; simp [wo, h2]
  refine CG ?_
  refine xfv ?_
  refine xfk ?_
  refine VG (VO.buildSlice (n := 1) (pv := [(0, .agg (rcC x).toArray)]) (rcC x) Z Z Z Z yy (fill_one Z Z Z) fun nb => ?_)
  refine VG (VO.append (m := 1) (news := rcC x) 1 Z Z Z Z Z Z Z (RdRow.pt 0 Z Z Z) Z (small_bytes (k := 1000001) yd yy) yd fun a2 c2 hc2 => ?_)
  refine xlf ?_
  rw [← hma, e]
  refine ⟨(a2, c2), trivial, SC Z (SC Z (SC (by rw [List.length_append]; rfl) sbZ)), ?_⟩
  dsimp only
  rw [List.length_append, flat_append, flat_cons, flat_nil, List.append_nil]
  exact (IP 0 Z Imp.nil).ent
 ·have h2 : x.1 = k := by
   apply ba_eq
   simpa using h2
  have e : wo (l.take (i + 1)) k = wo (l.take i) k := by rw [ht, wo, List.filter_append]; simp [wo, h2]
  rw [← hma, e]
  exact ⟨(a1, c1), trivial, sbZ, ER⟩
theorem with_spec (h : RwIn rcC 3 Fr w a l) (hl : l.length ≤ 100000) (x : RC) : Tri Tryz.prog 233 [.slice a l.length cap, .agg (rcC x).toArray] Fr w []
  (fun v L => ∃ (l' : List RC) (a' : Option Addr) (c' : Nat), (∀ k, mGet l' k = if x.1 = k then some x.2 else mGet l k) ∧ l'.length ≤ l.length + 1 ∧ v = .slice a' l'.length c' ∧ L = [slH rcT 3 a' l'.length c' (flat rcC l')]) := by
 refine TF 37 Tryz.func233 Z ym tabOk Z Z ?_
 refine CS (CG (VG (VB (vs := rcC x) Z fun xb => ?_)))
 refine xel ?_
 refine VG (VK (Lc := []) (fun Fr w hF hs _ => without_spec Fr w (RwIn.of h hF hs) yd x.1) Z Z ?_)
 rintro _ _ ⟨a1, c1, rfl, rfl⟩
 have hwl := wo_len l x.1
 have hins := mGet_ins l x
 generalize wo l x.1 = m at hwl hins
 refine VO.opn 0 Z (HOpn.rl rcT a1 c1 m rcC_len) ?_
 rintro r ⟨hrok, hrv, hrx⟩
 subst hrx
 have er : Value.slice a1 r.xs.length c1 = .slice r.addr r.xs.length r.cap := hrv.symm
 rw [er]
 have hroom := hrok.room
 refine xgk ?_
 refine xep ?_
 refine CS ?_
 refine VC.meetS (σ := Nat) (fun k => [(0, .slice r.addr r.xs.length r.cap), (3, pV xb), (5, .int .i64 k)]) (fun _ => [r.h rcT, pt xb (rcC x) rcT]) (fun k => k ≤ r.xs.length) ?_ ?_
 ·refine xjt ?_
  refine VC.loop (σ := Nat) (fun k => [(0, .slice r.addr r.xs.length r.cap), (3, pV xb), (5, .int .i64 k)]) (fun _ => [r.h rcT, pt xb (rcC x) rcT]) (fun k => k ≤ r.xs.length) (fun k => r.xs.length - k) 0 (Nat.zero_le _) sbZ ER ?_
  intro k hk
  refine CS ?_
  refine VC.meetS (σ := Bool) (fun d => [(0, .slice r.addr r.xs.length r.cap), (3, pV xb), (5, .int .i64 k)]) (fun _ => [r.h rcT, pt xb (rcC x) rcT]) (fun _ => k < r.xs.length) ?_ ?_
  ·refine CS ?_
   refine CD (ts 0 14 .nil) ym yq ?_
   by_cases h1 : k < r.xs.length
   rotate_left
   ·refine VA.go (AY 14 false Z (DF yd) ?_)
    refine xeq ?_
    refine VC.condF Z (CX ?_)
    exact ⟨k, hk, sbZ, ER⟩
   refine VA.go (AY 14 true Z (DT yd) ?_)
   obtain ⟨y, hy⟩ : ∃ y, r.xs[k]? = some y := ⟨_, GE h1⟩
   obtain ⟨tb, tof, htb, hta, hrd⟩ := RL.Ok.ld (t := rcT) hrok hy (rcC_len y)
   rw [hta]
   refine VA.go (AI Z (light_idx k Z Z Z Z Z Z h1) ?_)
   refine xeh ?_
   refine VA.go (VA.load Z Z Z ((hrd 0 Z).2 _ 0 _ Z Z) ?_)
   refine VA.go (VA.ld 1 Z Z Z Z Z ?_)
   refine VA.go (AI Z (light_ltStr Z Z) ?_)
   refine xeh ?_
   refine CC Z (fun _ => CK ?_) (fun _ => CX ?_)
   ·rw [← hta]
    exact ⟨true, h1, sbZ, ER⟩
   ·rw [← hta]
    exact ⟨k, hk, sbZ, ER⟩
  intro _ h1
  refine zpm ?_
  exact ⟨k + 1, h1, by dsimp only; omega, sbZ, ER⟩
 intro k hk
 have hins := hins k
 refine CS ?_
 refine CD (ts 0 3 (.take 4 (ts 7 3 (.two 3 5 (.only 5 (.only 6 (.only 10 (.take 11 .nil)))) (.only 3 (.only 6 (.only 10 (.take 11 .nil)))))))) ym yq ?_
 refine VA.go (AI Z (light_head k Z Z Z Z Z Z yd) ?_)
 refine VA.go (VA.ldA 1 (rcC x) Z Z Z Z Z ?_)
 refine VA.go (AI Z (light_from k Z Z Z Z Z Z yd yd) ?_)
 refine VA.keepS (cond := fun L' => pt xb (rcC x) rcT ∈ L') (fun S hS => ?_) (fun L' hL' => ?_)
 rotate_left
 ·obtain ⟨k1, hk1⟩ := List.getElem?_of_mem hL'
  exact (by (try refine Pd.st ?_);(repeat (first|exact Pd.nil|exact Pd.fnil|refine Pd.inner ?_|refine Pd.skip yq ?_|refine zf (RdL.blk (RdL.many k1 hk1 Z) Z) ?_|refine zf ((RdL.many k1 hk1 Z)) ?_|refine zc (RdL.blk (RdL.many k1 hk1 Z) Z) ?_|refine zc ((RdL.many k1 hk1 Z)) ?_|refine Pd.fconsM ((RdL.many k1 hk1 Z)) ?_|refine Pd.consM ((RdL.many k1 hk1 Z)) ?_)))
 refine VA.ent (L' := [slH rcT 3 none 0 0 [], r.h rcT, pt xb (rcC x) rcT]) (Imp.slNil Imp.refl).ent ?_
 refine VA.go (VA.two Z Z Z Z Z (OpT.append (m := k) (news := flat rcC (r.xs.take k)) 0 Z Z Z Z Z Z Z (RL.rdHead (t := rcT) rcC_len hrok 1 Z hk) (flat_all rcC_one _) (small_bytes (k := 100000) yd yy) yd)
  rfl rfl rfl (OpT.buildSlice (n := 1) (pv := [(0, .agg (rcC x).toArray)]) (cells := rcC x) rfl rfl rfl rfl yy (fill_one rfl rfl rfl)) (fun v L' h => by obtain ⟨a2, c2, rfl, hc2, rfl⟩ := h; exact Pd.st ybv) (fun v L' h => by obtain ⟨nb, rfl, rfl⟩ := h; exact Pd.st ybv) ?_ ?_)
 ·rintro v L' ⟨a2, c2, rfl, hc2, rfl⟩
  refine VA.go (AO (OpT.buildSlice (n := 1) (pv := [(0, .agg (rcC x).toArray)]) (cells := rcC x) rfl rfl rfl rfl yy (fill_one rfl rfl rfl)) rfl (fun v L' h => by obtain ⟨nb, rfl, rfl⟩ := h; exact ybv) ?_)
  rintro v L' ⟨nb, rfl, rfl⟩
  refine VA.go (AO (OpT.append (m := 1) (news := rcC x) 1 rfl rfl rfl rfl rfl rfl rfl (RdRow.pt 0 rfl rfl rfl) rfl (small_bytes (k := 100001) yd yy) yd) rfl (fun v L' h => by obtain ⟨a3, c3, rfl, hc3, rfl⟩ := h; exact ybv) ?_)
  rintro v L' ⟨a3, c3, rfl, hc3, rfl⟩
  refine xlg ?_
  rintro v L' ⟨a4, c4, rfl, hc4, rfl⟩
  ·refine VA.ent (L' := [slH rcT 3 a4 (r.xs.take k ++ [x] ++ r.xs.drop k).length c4 (flat rcC (r.xs.take k ++ [x] ++ r.xs.drop k))]) ?_ ?_
   ·have e1 : (r.xs.take k ++ [x] ++ r.xs.drop k).length = 0 + k + 1 + (r.xs.length - k) := by rw [List.length_append, List.length_append, List.length_take, List.length_drop]; simp; omega
    have e2 : flat rcC (r.xs.take k ++ [x] ++ r.xs.drop k) = [] ++ flat rcC (r.xs.take k) ++ rcC x ++ flat rcC (r.xs.drop k) := by simp [flat_append, flat_cons, flat_nil]
    rw [e1, e2]
    exact (IP 0 Z Imp.nil).ent
   refine xeh ?_
   have e1 : (r.xs.take k ++ [x] ++ r.xs.drop k).length = 0 + k + 1 + (r.xs.length - k) := by rw [List.length_append, List.length_append, List.length_take, List.length_drop]; simp; omega
   exact xlh
 ·rintro v L' ⟨nb, rfl, rfl⟩
  refine VA.go (AO (OpT.append (m := k) (news := flat rcC (r.xs.take k)) 1 rfl rfl rfl rfl rfl rfl rfl (RL.rdHead (t := rcT) rcC_len hrok 2 rfl hk) (flat_all rcC_one _) (small_bytes (k := 100000) yd yy) yd) rfl (fun v L' h => by obtain ⟨a2, c2, rfl, hc2, rfl⟩ := h; exact ybv) ?_)
  rintro v L' ⟨a2, c2, rfl, hc2, rfl⟩
  refine VA.go (AO (OpT.append (m := 1) (news := rcC x) 0 rfl rfl rfl rfl rfl rfl rfl (RdRow.pt 1 rfl rfl rfl) rfl (small_bytes (k := 100001) yd yy) yd) rfl (fun v L' h => by obtain ⟨a3, c3, rfl, hc3, rfl⟩ := h; exact ybv) ?_)
  rintro v L' ⟨a3, c3, rfl, hc3, rfl⟩
  refine xlg ?_
  rintro v L' ⟨a4, c4, rfl, hc4, rfl⟩
  ·refine VA.ent (L' := [slH rcT 3 a4 (r.xs.take k ++ [x] ++ r.xs.drop k).length c4 (flat rcC (r.xs.take k ++ [x] ++ r.xs.drop k))]) ?_ ?_
   ·have e1 : (r.xs.take k ++ [x] ++ r.xs.drop k).length = 0 + k + 1 + (r.xs.length - k) := by rw [List.length_append, List.length_append, List.length_take, List.length_drop]; simp; omega
    have e2 : flat rcC (r.xs.take k ++ [x] ++ r.xs.drop k) = [] ++ flat rcC (r.xs.take k) ++ rcC x ++ flat rcC (r.xs.drop k) := by simp [flat_append, flat_cons, flat_nil]
    rw [e1, e2]
    exact (IP 0 Z Imp.nil).ent
   refine xeh ?_
   have e1 : (r.xs.take k ++ [x] ++ r.xs.drop k).length = 0 + k + 1 + (r.xs.length - k) := by rw [List.length_append, List.length_append, List.length_take, List.length_drop]; simp; omega
   exact xlh
end
end Rk
namespace Rk
open Go Vg T Api Kv Lg Rd
attribute [local irreducible] VO VC VA
theorem kv_nodup {S : KvM} (h : (S.map Prod.fst).Nodup) (i : Int) (o : OpM) : ((kvApply S i o).1.map Prod.fst).Nodup := by
 unfold kvApply
 split
 ·exact h
 split
 ·exact h
 split
 ·split
  ·exact h
  ·exact mDel_nodup h _
 split
 ·exact h
 ·exact mPut_nodup h _ _
theorem look_same {l S : KvM} (h : ∀ k, mGet l k = mGet S k) (k : ByteArray) (i : Int) : kvLook l k i = kvLook S k i := by rw [kvLook, kvLook, h]
theorem apply_spec {r : RL RC} {S : KvM} (hS : ∀ k, mGet r.xs k = mGet S k) (hn : (S.map Prod.fst).Nodup) (hrok : r.Ok rcC 3) (hl : r.xs.length ≤ 90000) (i : Int) (o : OpM) :
  Tri Tryz.prog 213 [.slice r.addr r.xs.length r.cap, .int .i64 i, .agg o.cells.toArray] Fr w [r.h rcT]
   (fun v L => ∃ r' : RL RC, r'.Ok rcC 3 ∧ r'.xs.length ≤ r.xs.length + 1 ∧ (∀ k, mGet r'.xs k = mGet (kvApply S i o).1 k) ∧ v = .tuple #[.slice r'.addr r'.xs.length r'.cap, .agg (resC (kvApply S i o).2).toArray] ∧ L = [r'.h rcT]) := by
 have hlk := look_same hS o.key i
 refine TF 71 Tryz.func213 Z ym tabOk Z Z ?_
 refine CS (CG (VG (VB (vs := o.cells) Z fun ob => VG (VO.alloc Z fun d => ?_))))
 have same : ∀ {X : Cx} {e : Env} {L : List HP} {fn : Func} {x : ResM} (n : Nat), fn.results = #[.tmp 6, .cell 7 42] → tyLook X.tab 42 = some T.t42 → Vg.look e 6 = some (.slice r.addr r.xs.length r.cap) → Vg.look e 7 = some (.pointer (some ⟨d, 0, none⟩)) →
   L[n]? = some (pt d (resC x) 42) → Ent X L [r.h rcT] → kvApply S i o = (S, x) →
   Ret X fn (fun v L => ∃ r' : RL RC, r'.Ok rcC 3 ∧ r'.xs.length ≤ r.xs.length + 1 ∧ (∀ k, mGet r'.xs k = mGet (kvApply S i o).1 k) ∧ v = .tuple #[.slice r'.addr r'.xs.length r'.cap, .agg (resC (kvApply S i o).2).toArray] ∧ L = [r'.h rcT]) e L := fun {X e L fn x} n h1 h0 h2 h3 h4 h5 h6 =>
  Ret.tmpCell 6 7 h1 h2 h3 h0 (RdL.many (ds := resC x) n h4 rfl) h5 ⟨r, hrok, by omega, by rw [h6]; exact hS, by rw [h6], rfl⟩
 refine xlf ?_
 by_cases c1 : i < 1
 ·have hk : kvApply S i o = (S, resZ) := by rw [kvApply, if_pos (.inl c1)]
  refine VG (VY 11 true Z (DT c1) ?_)
  refine xlf ?_
  refine VG (VY 15 true Z Z ?_)
  refine xlf ?_
  refine xem ?_
  refine zqe ?_
  refine xlf ?_
  exact xlj
 refine VG (VY 11 false Z (DF c1) ?_)
 by_cases c2 : 4096 < i
 ·have hk : kvApply S i o = (S, resZ) := by rw [kvApply, if_pos (.inr (.inl c2))]
  refine VG (VY 15 true Z (DT c2) ?_)
  refine xlf ?_
  refine xem ?_
  refine zqe ?_
  refine xlf ?_
  exact xlj
 refine VG (VY 15 false Z (DF c2) ?_)
 refine VG (VL 1 o.cells Z Z Z Z ?_)
 refine VG (VO.callV (fun Fr w => rcheck_spec Fr w o) Z ?_)
 refine xlf ?_
 refine VC.condNE (i := opCheck o) (j := 0) Z (fun c3 => ?_) (fun c3 => CK ?_)
 ·have hk : kvApply S i o = (S, resZ) := by rw [kvApply, if_pos (.inr (.inr c3))]
  refine zqe ?_
  refine xlf ?_
  exact xlj
 have hno : ¬ (i < 1 ∨ 4096 < i ∨ opCheck o ≠ 0) := fun h => by rcases h with h | h | h; exact c1 h; exact c2 h; exact h c3
 have hv : (kvLook S o.key i).value = ((mGet S o.key).getD (nilB, 0)).1 ∧ (kvLook S o.key i).version = ((mGet S o.key).getD (nilB, 0)).2 ∧ ((kvLook S o.key i).code = 2 ↔ mGet S o.key = none) := by
  unfold kvLook
  cases mGet S o.key with
  | none => exact ⟨rfl, rfl, by simp⟩
  | some v => exact ⟨rfl, rfl, by simp⟩
 refine xhm ?_
 refine xhk ?_
 refine VG (VV (fun Fr w hF hs hS => look_spec Fr w (RwIn.rl (hS.at_ 2 Z) hrok) yd o.key i) Z ?_)
 rw [hlk]
 refine VG (VO.alloc Z fun b8 => ?_)
 refine VG (VT (vs := resC (kvLook S o.key i)) (cs' := resC (kvLook S o.key i)) 0 Z Z Z Z (NR _) Z Z Z (VG (VN ?_)))
 refine CS ?_
 refine VC.meetS (σ := Unit) (fun _ => [(0, .slice r.addr r.xs.length r.cap), (1, .int .i64 i), (5, pV ob), (7, pV d)]) (fun _ => [pt d (resC resZ) 42, pt ob o.cells 40, r.h rcT]) (fun _ => kvApply S i o = (mPut S o.key (o.value, i), ⟨1, nilB, i, i⟩)) ?_ ?_
 ·refine xgd ?_
  refine CE (i := o.kind) (j := 1) Z (fun k1 => ?_) (fun k1 => ?_)
  ·have hk : kvApply S i o = (S, kvLook S o.key i) := by rw [kvApply, if_neg hno, if_pos k1]
   refine CS (CD (.take 0 (.take 2 (.take 1 (.only 3 .nil)))) ym yq ?_)
   refine VA.go (VA.ldA 0 (resC (kvLook S o.key i)) Z Z Z Z Z ?_)
   refine xlk ?_
   refine xeh ?_
   exact xll
  refine xgd ?_
  refine CE (i := o.kind) (j := 3) Z (fun k3 => ?_) (fun k3 => ?_)
  ·refine xel ?_
   by_cases hc : mGet S o.key = none
   ·have hk : kvApply S i o = (S, kvLook S o.key i) := by
     rw [kvApply, if_neg hno, if_neg k1, if_pos k3, kvLook, hc]
    refine CE (i := (kvLook S o.key i).code) (j := 2) Z (fun _ => ?_) (fun h => absurd (hv.2.2.2 hc) h)
    refine CS (CD (.take 0 (.take 2 (.take 1 (.only 3 .nil)))) ym yq ?_)
    refine VA.go (VA.ldA 0 (resC (kvLook S o.key i)) Z Z Z Z Z ?_)
    refine xlk ?_
    refine xeh ?_
    exact xll
   ·have hk : kvApply S i o = (mDel S o.key, ⟨1, nilB, 0, i⟩) := by
     rw [kvApply, if_neg hno, if_neg k1, if_pos k3]
     cases hg : mGet S o.key with
     | none => exact absurd hg hc
     | some v => rfl
    refine CE (i := (kvLook S o.key i).code) (j := 2) Z (fun h => absurd (hv.2.2.1 h) hc) (fun _ => CK ?_)
    refine xhm ?_
    refine VG (VO.ld 2 Z Z Z Z ?_)
    refine VG (VK (Lc := []) (fun Fr w hF hs hS => without_spec Fr w (RwIn.rl (hS.at_ 3 Z) hrok) yd o.key) Z Z ?_)
    rintro _ _ ⟨a1, c1', rfl, rfl⟩
    refine xfg ?_
    refine VG (VT (vs := resC ⟨1, nilB, 0, i⟩) (cs' := resC ⟨1, nilB, 0, i⟩) 2 Z Z Z Z (NR _) Z Z Z (VG (VN ?_)))
    refine VC.opn 0 Z (HOpn.rl rcT a1 c1' (wo r.xs o.key) rcC_len) ?_
    rintro r' ⟨hok', hv', hx'⟩
    refine CR (Ret.tmpCell 6 7 Z Z Z Z (RdL.many (ds := resC ⟨1, nilB, 0, i⟩) 2 Z Z) (L' := [r'.h rcT]) (IP 0 Z Imp.nil).ent ⟨r', hok', ?_, ?_, ?_, Z⟩)
    ·rw [hx']; have := wo_len r.xs o.key; omega
    ·intro k
     rw [hx', hk, mGet_wo, hS, mGet_del hn]
    ·rw [hk, ← show r'.v = .slice r'.addr r'.xs.length r'.cap from rfl, hv']
  refine xgd ?_
  refine CE (i := o.kind) (j := 4) Z (fun k4 => ?_) (fun k4 => CK ?_)
  rotate_left
  ·exact ⟨(), by rw [kvApply, if_neg hno, if_neg k1, if_neg k3, if_neg (fun h => k4 h.1)], sbZ, (pkZ [1, 1, 1]).ent⟩
  refine xgd ?_
  refine VC.condNE (i := (kvLook S o.key i).version) (j := o.version) Z (fun k5 => ?_) (fun k5 => CK ?_)
  rotate_left
  ·exact ⟨(), by rw [kvApply, if_neg hno, if_neg k1, if_neg k3, if_neg (fun h => h.2 (by rw [← hv.2.1]; exact k5))], sbZ, (pkZ [1, 1, 1]).ent⟩
  have hk : kvApply S i o = (S, ⟨3, (kvLook S o.key i).value, (kvLook S o.key i).version, i⟩) := by
   rw [kvApply, if_neg hno, if_neg k1, if_neg k3, if_pos ⟨k4, by rw [← hv.2.1]; exact k5⟩, hv.1, hv.2.1]
  refine CS (CD (.take 0 (.take 7 (ts 1 6 (.only 8 .nil)))) ym yq ?_)
  refine xeh ?_
  refine VA.go (AI Z (LB (pv := [(0, .int .i64 3), (1, .string (kvLook S o.key i).value), (2, .int .i64 (kvLook S o.key i).version), (3, .int .i64 i)]) (resC ⟨3, (kvLook S o.key i).value, (kvLook S o.key i).version, i⟩) Z Z Z ym Z) ?_)
  refine VA.go (AT (vs := resC ⟨3, (kvLook S o.key i).value, (kvLook S o.key i).version, i⟩) (cs' := resC ⟨3, (kvLook S o.key i).value, (kvLook S o.key i).version, i⟩) 1 Z Z Z Z Z (NR _) Z Z Z yu ?_)
  refine xeh ?_
  exact xll
 rintro _ hk
 refine xhm ?_
 refine xhk ?_
 refine xhk ?_
 refine VG (VI (LB (pv := [(0, .string o.key), (1, .string o.value), (2, .int .i64 i)]) (rcC (o.key, o.value, i)) Z Z Z ym Z) ?_)
 refine VG (VK (Lc := []) (fun Fr w hF hs hS => with_spec Fr w (RwIn.rl (hS.at_ 2 Z) hrok) yd (o.key, o.value, i)) Z Z ?_)
 rintro _ _ ⟨l', a1, c1', hl1, hl2, rfl, rfl⟩
 refine xfd ?_
 refine VG (VT (vs := resC ⟨1, nilB, i, i⟩) (cs' := resC ⟨1, nilB, i, i⟩) 1 Z Z Z Z (NR _) Z Z Z (VG (VN ?_)))
 refine VC.opn 0 Z (HOpn.rl rcT a1 c1' l' rcC_len) ?_
 rintro r' ⟨hok', hv', hx'⟩
 refine CR (Ret.tmpCell 6 7 Z Z Z Z (RdL.many (ds := resC ⟨1, nilB, i, i⟩) 1 Z Z) (L' := [r'.h rcT]) (IP 0 Z Imp.nil).ent ⟨r', hok', ?_, ?_, ?_, Z⟩)
 ·rw [hx']; exact hl2
 ·intro k
  rw [hx', hk, hl1, hS, mGet_put]
 ·rw [hk, ← show r'.v = .slice r'.addr r'.xs.length r'.cap from rfl, hv']
end Rk
namespace Rk
open Go Vg T Api Kv Lg Rd
attribute [local irreducible] VO VC VA
abbrev rlogT : TypeId := 205
def rlogL (p : Nat) (es : List EntryM) (x : Option Addr × Nat) : List HP := [pt p [.slice x.1 es.length x.2] rlogT, slH entT 7 x.1 es.length x.2 (flat entC es)]
def rlogH (p : Nat) (es : List EntryM) : HP := hex fun x => hsep (rlogL p es x)
theorem HOpn.rlog (p : Nat) (es : List EntryM) : HOpn (ι := Option Addr × Nat) (rlogH p es) (fun _ => True) (fun x => rlogL p es x) := fun w ids ⟨x, h⟩ hn => ⟨x, trivial, ids, h, hn, fun _ h => h⟩
theorem Imp.rlog {p : Nat} {es : List EntryM} {L M : List HP} (x : Option Addr × Nat) (h : Imp L (rlogL p es x ++ M)) : Imp L (rlogH p es :: M) :=
 Imp.ex (f := fun x => hsep (rlogL p es x)) x (Imp.sep (Ls := rlogL p es x) h)
theorem rlnew_spec : Tri Tryz.prog 78 [] Fr w [] (fun v L => ∃ p, v = .pointer (some ⟨p, 0, none⟩) ∧ L = [rlogH p []]) := by
 refine TF 3 Tryz.func78 Z ym tabOk Z Z ?_
 refine xep ?_
 refine xhm ?_
 refine VG (VI (LB (pv := []) [.slice none 0 0] Z Z Z ym Z) ?_)
 refine VG (VB (vs := [.slice none 0 0]) Z fun p => ?_)
 refine xdy ?_
 exact CR (Ret.tmp 0 Z Z (Imp.rlog (none, 0) (IP 0 Z (Imp.slNil Imp.nil))).ent ⟨p, Z, Z⟩)
structure RlogIn (Fr : Nat → Prop) (w : World) (p : Nat) (es : List EntryM) (x : Option Addr × Nat) : Prop where
 blk : Blk Fr w p [.slice x.1 es.length x.2]
 ents : RwIn entC 7 Fr w x.1 es
theorem RlogIn.of {Fr : Nat → Prop} {w : World} {p : Nat} {es : List EntryM} (h : SatIn Fr [rlogH p es] w) : ∃ x, RlogIn Fr w p es x := by
 obtain ⟨x, h⟩ := h.ex
 have h := h.sep
 exact ⟨x, h.blk 0 Z, RwIn.slH entC_len (h.at_ 1 Z)⟩
theorem rllen_spec {p : Nat} {es : List EntryM} (h : SatIn Fr [rlogH p es] w) : Tri Tryz.prog 164 [.pointer (some ⟨p, 0, none⟩)] Fr w [] (fun v L => v = .int .i64 es.length ∧ L = []) := by
 obtain ⟨x, hx⟩ := RlogIn.of h
 have hb := hx.blk
 refine TF 8 Tryz.func164 Z ym tabOk Z Z ?_
 refine xfh ?_
 exact xeu
theorem rlat_spec {p : Nat} {es : List EntryM} (h : SatIn Fr [rlogH p es] w) (i : Int) (hi0 : -9223372036854775808 < i) (hi1 : i ≤ 9223372036854775807) : Tri Tryz.prog 96 [.pointer (some ⟨p, 0, none⟩), .int .i64 i] Fr w []
  (fun v L => v = .tuple #[.agg (entC ((atI es i).getD entZ)).toArray, .bool (atI es i).isSome] ∧ L = []) := by
 obtain ⟨x, hx⟩ := RlogIn.of h
 have hb := hx.blk
 refine TF 26 Tryz.func96 Z ym tabOk Z Z ?_
 refine CS (CG (VG (VO.alloc Z fun d => ?_)))
 refine xdy ?_
 by_cases h1 : i < 1
 ·refine VG (VY 8 true Z (DT h1) ?_)
  refine zrg ?_
  refine xhm ?_
  refine xfi ?_
  refine xlm ?_
  refine xdy ?_
  exact xln
 refine VG (VY 8 false Z (DF h1) ?_)
 refine xlo ?_
 refine CP (p := (es.length : Int) < i) Z (fun h2 => ?_) (fun h2 => CK ?_)
 ·refine xhm ?_
  refine xfi ?_
  refine xlm ?_
  refine xdy ?_
  exact CR (Ret.cellTmp 4 5 Z Z Z (RdL.many 0 Z Z) Z Imp.nil.ent ⟨by rw [atI_none (.inr h2)]; rfl, Z⟩)
 obtain ⟨k, e, hk, hkl, hke, hat⟩ := atI_some (l := es) (i := i) yd yd
 obtain ⟨eb, eo, hea, ra, rc⟩ := RwIn.rd (X := ⟨Tryz.prog, tab, tabOk, 26, Fr, w⟩) hx.ents hke
 rw [hea] at hb
 refine xfh ?_
 refine xfj ?_
 refine VG (VI (light_idx k Z Z Z Z Z yd hkl) ?_)
 refine xfk ?_
 refine VG (VT (vs := entC e) (cs' := entC e) 0 Z Z Z Z (NR _) Z Z Z ?_)
 refine xdy ?_
 exact CR (Ret.cellTmp 4 5 Z Z Z (RdL.many 0 Z Z) Z Imp.nil.ent ⟨by rw [hat]; rfl, Z⟩)
theorem rd_sub {α : Type} {c : α → List Value} {n : Nat} {X : Cx} {a : Option Addr} {l : List α} (h : RwIn c n X.Fr X.w0 a l) {i : Nat} {x : α} (hx : l[i]? = some x) : ∃ b off, a = some ⟨b, off, none⟩ ∧
  ∀ (L : List HP) (ti : TI) (j : Nat) (cs : List Value), cs.length = ti.size → ti.und.agg = true → ((c x).drop j).take cs.length = cs → RdL X L ti b (off + i * n + j) (.agg cs.toArray) := by
 obtain ⟨b, off, h1, h2, h3⟩ := h.at_ (fun e => by rw [e] at hx; cases hx)
 refine ⟨b, off, h1, fun L ti j cs hl ha hc => RdL.rd h2 ?_⟩
 rw [ha]
 refine ⟨cs, Z, hl, fun k v hv => ?_⟩
 have hk : k < cs.length := (List.getElem?_eq_some_iff.1 hv).1
 have : (c x)[j + k]? = some v := by
  rw [← hc, List.getElem?_take, if_pos hk, List.getElem?_drop] at hv
  exact hv
 have := h3 i x hx (j + k) v this
 rw [Nat.add_assoc]
 rwa [Nat.add_assoc] at this ⊢
def Num (es : List EntryM) : Prop := ∀ (i : Nat) (e : EntryM), es[i]? = some e → e.index = i + 1
theorem Num.snoc {es : List EntryM} (h : Num es) {e : EntryM} (he : e.index = es.length + 1) : Num (es ++ [e]) := by
 intro i x hx
 by_cases hi : i < es.length
 ·rw [List.getElem?_append_left hi] at hx; exact h i x hx
 ·by_cases hi2 : i = es.length
  ·subst hi2
   rw [List.getElem?_append_right (NR _), Nat.sub_self] at hx
   obtain rfl : e = x := by simpa using hx
   exact he
  ·rw [List.getElem?_eq_none ybw] at hx; cases hx
theorem run_nodup (es : List EntryM) : ((logRun es).1.map Prod.fst).Nodup := by
 have key : ∀ (n : Nat), n ≤ es.length → ((logRun (es.take n)).1.map Prod.fst).Nodup := by
  intro n
  induction n with
  | zero => intro _; exact .nil
  | succ n ih =>
   intro hn
   have h := ih yd
   rw [List.take_add_one, GE yd]
   show ((logRun (es.take n ++ [es[n]])).1.map Prod.fst).Nodup
   rw [logRun_snoc]
   exact kv_nodup h _ _
 have := key es.length (NR _)
 rwa [List.take_length] at this
section
variable {p : Nat} {es : List EntryM} {x : Option Addr × Nat}
theorem cells_spec (hx : RlogIn Fr w p es x) (hnum : Num es) (hl : es.length ≤ 5000) : Tri Tryz.prog 169 [.pointer (some ⟨p, 0, none⟩)] Fr w []
  (fun v L => ∃ (r : RL RC) (b : Option Addr) (bc : Nat), r.Ok rcC 3 ∧ r.xs.length ≤ es.length ∧ (∀ k, mGet r.xs k = mGet (logRun es).1 k) ∧ v = .tuple #[.slice r.addr r.xs.length r.cap, .slice b es.length bc] ∧ L = [r.h rcT, slH resT 4 b es.length bc (flat resC (logRun es).2)]) := by
 have hb := hx.blk
 refine TF 40 Tryz.func169 Z ym tabOk Z Z ?_
 refine xlf ?_
 refine VC.loop (σ := Nat × RL RC × Option Addr × Nat) (fun y => [(0, pV p), (4, .slice y.2.1.addr y.2.1.xs.length y.2.1.cap), (5, .slice y.2.2.1 y.1 y.2.2.2), (6, .int .i64 y.1)])
  (fun y => [y.2.1.h rcT, slH resT 4 y.2.2.1 y.1 y.2.2.2 (flat resC (logRun (es.take y.1)).2)]) (fun y => y.1 ≤ es.length ∧ y.2.1.Ok rcC 3 ∧ y.2.1.xs.length ≤ y.1 ∧ ∀ k, mGet y.2.1.xs k = mGet (logRun (es.take y.1)).1 k) (fun y => es.length - y.1) (0, RL.none, none, 0)
  ⟨Nat.zero_le _, RL.none_ok, Nat.zero_le _, fun k => rfl⟩ sbZ (Imp.pure trivial (Imp.slNil Imp.nil)).ent ?_
 rintro ⟨i, r, a2, c2⟩ ⟨hi, hok, hrl, hrel⟩
 dsimp only at hi hok hrl hrel ⊢
 refine xjg ?_
 refine CP (p := (i : Int) < (es.length : Int)) Z (fun h1 => CK ?_) (fun h1 => CX ?_)
 rotate_left
 ·obtain rfl : i = es.length := by omega
  rw [List.take_length] at hrel ⊢
  refine xlf ?_
  exact CR (Ret.tmp2 2 3 Z Z Z ER ⟨r, a2, c2, hok, hrl, hrel, Z, Z⟩)
 have hi2 : i < es.length := by omega
 obtain ⟨e, he⟩ : ∃ e, es[i]? = some e := ⟨_, GE hi2⟩
 have hei := hnum i e he
 have ht : es.take (i + 1) = es.take i ++ [e] := by rw [List.take_add_one, he]; rfl
 have hlen : (logRun (es.take i)).2.length = i := by rw [logRun_len, List.length_take]; omega
 obtain ⟨mb, mo, hma, ra⟩ := rd_sub (X := ⟨Tryz.prog, tab, tabOk, 40, Fr, w⟩) hx.ents he
 have hb2 := hb
 rw [hma] at hb2
 refine xdx ?_
 refine xhm ?_
 refine xei ?_
 refine VG (VD Z Z (RdL.blk hb2 Z) ?_)
 refine xfv ?_
 refine xlf ?_
 refine VG (VD (v := .agg e.op.cells.toArray) Z Z (ra _ _ 3 e.op.cells Z Z Z) ?_)
 refine VG (VK (Lc := [r.h rcT]) (fun Fr w hF hs hS => apply_spec Fr w hrel (run_nodup _) hok yd ((i : Int) + 1) e.op) Z Z ?_)
 rintro _ _ ⟨r', hok', hl', hrel', rfl, rfl⟩
 refine VG (VO.alloc Z fun b8 => ?_)
 refine VG (VT (vs := resC (kvApply (logRun (es.take i)).1 ((i : Int) + 1) e.op).2) (cs' := resC (kvApply (logRun (es.take i)).1 ((i : Int) + 1) e.op).2) 0 Z Z Z Z (NR _) Z Z Z (VG (VN ?_)))
 refine CG ?_
 refine VG (VL 0 (resC (kvApply (logRun (es.take i)).1 ((i : Int) + 1) e.op).2) Z Z Z Z ?_)
 refine VG (VO.buildSlice (n := 1) (pv := [(0, .agg (resC (kvApply (logRun (es.take i)).1 ((i : Int) + 1) e.op).2).toArray)]) (resC (kvApply (logRun (es.take i)).1 ((i : Int) + 1) e.op).2) Z Z Z Z yy (fill_one Z Z Z) fun nb => ?_)
 refine VG (VO.append (m := 1) (news := resC (kvApply (logRun (es.take i)).1 ((i : Int) + 1) e.op).2) 3 Z Z Z Z Z Z Z (RdRow.pt 0 Z Z Z) Z (small_bytes (k := 5001) yd yy) yd fun a3 c3 hc3 => ?_)
 refine zpm ?_
 have e2 : logRun (es.take (i + 1)) = logStep (logRun (es.take i)) e := by rw [ht, logRun_snoc]
 refine ⟨(i + 1, r', a3, c3), ⟨hi2, hok', by dsimp only; omega, fun k => ?_⟩, by dsimp only; omega, sbZ, ?_⟩
 ·dsimp only
  rw [e2, hrel', logStep, hei]
 ·dsimp only
  rw [e2, logStep, hei, flat_append, flat_cons, flat_nil, List.append_nil]
  exact (pkZ [3, 0]).ent
end
end Rk
namespace Sched
open Go Vg T Api Ring
attribute [local irreducible] VO VC VA
structure WaitI (n : Nat) (fs : List FrameM) (x : Nat × Option Addr × Nat × List FM) : Prop where
 le : x.1 ≤ n
 room : x.2.2.2.length ≤ x.2.2.1
 gs : x.2.2.2.map Prod.fst = fs
end Sched
namespace Ref16
open Go Vg T Api Sched
attribute [local irreducible] VO VC VA
abbrev FL := RL FM
structure RfS where
 ua : Option Addr
 uc : Nat
 qb : Nat
 qc : Nat
 cb : Nat
 cc : Nat
 sb : Nat
 sc : Nat
 rows : List FL
def rfC (s : RfS) (n : Nat) (cap t : Int) (f : Bool) : List Value := [.int .i64 cap, .slice s.ua n s.uc, .slice (some ⟨s.qb, 0, none⟩) n s.qc, .slice (some ⟨s.cb, 0, none⟩) n s.cc, .slice (some ⟨s.sb, 0, none⟩) n s.sc, .int .i64 t, .bool f]
def crs (l : List ClsM) : List Value := l.map fun c => .int .i64 c.credit
def svs (l : List ClsM) : List Value := l.map fun c => .int .i64 c.served
def rfR (s : RfS) : List HP := s.rows.map fun r => r.h 46
def rfL (p : Nat) (S : SchM) (s : RfS) : List HP := pt p (rfC s S.cls.length S.cap S.turn S.fresh) 174 :: pt s.qb (s.rows.map RL.v) 65 :: pt s.cb (crs S.cls) 3 :: pt s.sb (svs S.cls) 3 :: rfR s
structure RfOk (S : SchM) (a : Option Addr) (s : RfS) : Prop where
 wf : S.Wf
 ua : s.ua = a
 len : s.rows.length = S.cls.length
 ok : ∀ (k : Nat) (r : FL), s.rows[k]? = some r → r.Ok fmc 29
 link : ∀ (k : Nat) (r : FL) (c : ClsM), s.rows[k]? = some r → S.cls[k]? = some c → r.xs.map Prod.fst = c.q
def rfH (p : Nat) (a : Option Addr) (S : SchM) : HP := hex fun s => hsep (hpure (RfOk S a s) :: rfL p S s)
theorem HOpn.rf (p : Nat) (a : Option Addr) (S : SchM) : HOpn (rfH p a S) (fun s => RfOk S a s) (fun s => rfL p S s) := by
 rintro w ids ⟨s, h⟩ hn
 obtain ⟨F, G, rfl, ⟨rfl, h1⟩, h2⟩ := h
 exact xgq
theorem rf_shut {p : Nat} {a : Option Addr} {S : SchM} {L : List HP} (s : RfS) (hs : RfOk S a s) (h : Imp L (rfL p S s)) : Imp L [rfH p a S] :=
 Imp.ex s (Imp.sep (Imp.trans h (Imp.of_eq (List.append_nil _).symm |>.trans (Imp.pure hs Imp.refl))))
structure RfIn (Fr : Nat → Prop) (w : World) (p : Nat) (a : Option Addr) (S : SchM) (s : RfS) : Prop where
 ok : RfOk S a s
 at0 : Blk Fr w p (rfC s S.cls.length S.cap S.turn S.fresh)
 q : Blk Fr w s.qb (s.rows.map RL.v)
 cr : Blk Fr w s.cb (crs S.cls)
 sv : Blk Fr w s.sb (svs S.cls)
 row : ∀ (k : Nat) (r : FL) (b : Nat), s.rows[k]? = some r → r.blk = some b → Blk Fr w b r.cells
theorem RfIn.of {Fr : Nat → Prop} {w : World} {p : Nat} {a : Option Addr} {S : SchM} (h : SatIn Fr [rfH p a S] w) : ∃ s, RfIn Fr w p a S s := by
 obtain ⟨s, h⟩ := h.ex
 have h := h.sep
 exact ⟨s, h.pure 0 Z, h.blk 1 Z, h.blk 2 Z, h.blk 3 Z, h.blk 4 Z, fun k r b hr hb => h.blk (t := 46) (k + 5) (by simp [rfL, rfR, hr, RL.h_pt hb])⟩
theorem RfOk.row {S : SchM} {a : Option Addr} {s : RfS} (h : RfOk S a s) {k : Nat} (hk : k < S.cls.length) : ∃ r c, s.rows[k]? = some r ∧ S.cls[k]? = some c ∧ r.Ok fmc 29 ∧ r.xs.map Prod.fst = c.q := by
 have hk' : k < s.rows.length := by rw [h.len]; exact hk
 have h1 := GE hk'
 have h2 := GE hk
 exact ⟨_, _, h1, h2, h.ok _ _ h1, h.link _ _ _ h1 h2⟩
theorem rows_v {s : RfS} {k : Nat} {r : FL} (hr : s.rows[k]? = some r) : (s.rows.map RL.v)[0 + k * 1]? = some r.v := by rw [Nat.zero_add, Nat.mul_one, List.getElem?_map, hr]; rfl
theorem crs_at {l : List ClsM} {k : Nat} {c : ClsM} (hc : l[k]? = some c) : (crs l)[0 + k * 1]? = some (.int .i64 c.credit) := by rw [Nat.zero_add, Nat.mul_one, crs, List.getElem?_map, hc]; rfl
theorem svs_at {l : List ClsM} {k : Nat} {c : ClsM} (hc : l[k]? = some c) : (svs l)[0 + k * 1]? = some (.int .i64 c.served) := by rw [Nat.zero_add, Nat.mul_one, svs, List.getElem?_map, hc]; rfl
theorem crs_set {l : List ClsM} {k : Nat} {c : ClsM} {x : Int} (hx : x = c.credit) : (crs l).set (0 + k * 1) (.int .i64 x) = crs (l.set k c) := by subst hx; rw [Nat.zero_add, Nat.mul_one, crs, crs, List.map_set]
theorem svs_set {l : List ClsM} {k : Nat} {c : ClsM} {x : Int} (hx : x = c.served) : (svs l).set (0 + k * 1) (.int .i64 x) = svs (l.set k c) := by subst hx; rw [Nat.zero_add, Nat.mul_one, svs, svs, List.map_set]
theorem crs_len (l : List ClsM) : (crs l).length = l.length := by simp [crs]
theorem svs_len (l : List ClsM) : (svs l).length = l.length := by simp [svs]
theorem crs_same {l : List ClsM} {k : Nat} {c c' : ClsM} (hc : l[k]? = some c) (h : c'.credit = c.credit) : crs (l.set k c') = crs l := by
 rw [← crs_set (x := c.credit) h.symm]
 have := crs_at hc
 rw [Nat.zero_add, Nat.mul_one] at this ⊢
 rw [← (List.getElem?_eq_some_iff.1 this).2]; simp
theorem svs_same {l : List ClsM} {k : Nat} {c c' : ClsM} (hc : l[k]? = some c) (h : c'.served = c.served) : svs (l.set k c') = svs l := by
 rw [← svs_set (x := c.served) h.symm]
 have := svs_at hc
 rw [Nat.zero_add, Nat.mul_one] at this ⊢
 rw [← (List.getElem?_eq_some_iff.1 this).2]; simp
theorem rf_h {s : RfS} {k : Nat} {r : FL} (hr : s.rows[k]? = some r) : (rfR s)[k]? = some (r.h 46) := by simp [rfR, hr]
theorem RfOk.set {S : SchM} {a : Option Addr} {s : RfS} (h : RfOk S a s) {k t : Nat} {c' : ClsM} {r' : FL} {fr : Bool} (hok : r'.Ok fmc 29) (hq : r'.xs.map Prod.fst = c'.q) (hw : SchM.Wf ⟨S.cls.set k c', S.cap, t, fr⟩) : RfOk ⟨S.cls.set k c', S.cap, t, fr⟩ a { s with rows := s.rows.set k r' } := by
 refine ⟨hw, h.ua, by simp [h.len], fun j r hr => ?_, fun j r c hr hc => ?_⟩
 ·rcases List.mem_or_eq_of_mem_set (ME hr) with hm | rfl
  ·obtain ⟨i, hi⟩ := List.getElem?_of_mem hm
   exact h.ok i r hi
  ·exact hok
 ·by_cases hjk : k = j
  ·subst hjk
   have hk1 : k < s.rows.length := by have := (List.getElem?_eq_some_iff.1 hr).1; simpa using this
   have hk2 : k < S.cls.length := by have := (List.getElem?_eq_some_iff.1 hc).1; simpa using this
   simp only [List.getElem?_set_self hk1, Option.some.injEq] at hr
   simp only [List.getElem?_set_self hk2, Option.some.injEq] at hc
   subst hr; subst hc; exact hq
  ·simp only [List.getElem?_set_ne hjk] at hr hc
   exact h.link j r c hr hc
theorem RfOk.setC {S : SchM} {a : Option Addr} {s : RfS} (h : RfOk S a s) {k t : Nat} {c c' : ClsM} {fr : Bool} (hc : S.cls[k]? = some c) (hq : c'.q = c.q) (hw : SchM.Wf ⟨S.cls.set k c', S.cap, t, fr⟩) : RfOk ⟨S.cls.set k c', S.cap, t, fr⟩ a s := by
 obtain ⟨r, c1, hr, hc1, hok, hl⟩ := h.row (List.getElem?_eq_some_iff.1 hc).1
 obtain rfl : c1 = c := by rw [hc1] at hc; exact Option.some.inj hc
 have := h.set (r' := r) hok (hl.trans hq.symm) hw
 rwa [show s.rows.set k r = s.rows from by rw [← (List.getElem?_eq_some_iff.1 hr).2]; simp] at this
theorem rfR_put {s : RfS} {k : Nat} {r' : FL} (hk : k < s.rows.length) : Imp (r'.h 46 :: rfR s) (rfR { s with rows := s.rows.set k r' }) := by
 refine Imp.trans (Imp.put (H := r'.h 46) k (by simpa [rfR] using hk)) (Imp.of_eq ?_)
 simp [rfR, List.map_set]
theorem has_spec {p n : Nat} {s : RfS} {cap t : Int} {f : Bool} (i : Int) (h : Blk Fr w p (rfC s n cap t f)) : Tri Tryz.prog 127 [.pointer (some ⟨p, 0, none⟩), .int .i64 i] Fr w [] (fun v L => v = .bool (decide (0 ≤ i ∧ i < n)) ∧ L = []) := by
 refine TF 16 Tryz.func127 Z ym tabOk Z Z ?_
 refine xdy ?_
 refine VG (VO.split 7 Z Z (fun h1 => ?_) (fun h1 => ?_))
 ·have h1 := of_decide_eq_true h1
  refine xeb ?_
  exact CR (Ret.bool 4 Z Z yf ER ⟨rfl, Z⟩)
 ·have h1 := of_decide_eq_false h1
  refine xdy ?_
  exact CR (Ret.bool 4 Z Z yf ER ⟨rfl, Z⟩)
theorem on_spec {p n t : Nat} {s : RfS} {cap : Int} {f : Bool} (ht : t < n) (hn : n ≤ 4) : Tri Tryz.prog 211 [.pointer (some ⟨p, 0, none⟩)] Fr w [pt p (rfC s n cap t f) 174]
  (fun v L => v = .tuple #[] ∧ L = [pt p (rfC s n cap ((t + 1) % n : Nat) true) 174]) := by
 have fin : ∀ {x : Int}, x = ((t + 1) % n : Nat) → rfC s n cap x true = rfC s n cap ((t + 1) % n : Nat) true := fun {x} h => by rw [h]
 refine TF 25 Tryz.func211 Z ym tabOk Z Z ?_
 refine zpf ?_
 refine VG (VO.st 0 Z Z Z Z (by show 5 < 7; omega) Z Z (VG (VN ?_)))
 refine CS (CS (CD (ts 0 10 .nil) ym yq ?_))
 refine xeh ?_
 refine CE Z (fun h1 => ?_) (fun h1 => CK ?_)
 ·refine xdy ?_
  refine VG (VO.st 0 Z Z Z Z (by show 5 < 7; omega) Z Z (VG (VN ?_)))
  refine xdy ?_
  refine VG (VO.st 0 Z Z Z Z ybx Z Z (VG (VN ?_)))
  refine Ret.void Z ER ⟨rfl, ?_⟩
  rw [← fin (x := 0) (by
   have : t + 1 = n := by omega
   rw [this, Nat.mod_self]; rfl)]
  rfl
 ·refine xdy ?_
  refine VG (VO.st 0 Z Z Z Z ybx Z Z (VG (VN ?_)))
  refine Ret.void Z ER ⟨rfl, ?_⟩
  rw [← fin (x := (t : Int) + 1) (by
   rw [Nat.mod_eq_of_lt yd]; push_cast; rfl)]
  rfl
theorem waiting_spec {p : Nat} {a : Option Addr} {S : SchM} (h : SatIn Fr [rfH p a S] w) :
  Tri Tryz.prog 241 [.pointer (some ⟨p, 0, none⟩)] Fr w [] (fun v L => ∃ a c gs, gs.map Prod.fst = S.waitM ∧ v = .slice a gs.length c ∧ L = [frH a c gs]) := by
 obtain ⟨s, h⟩ := RfIn.of h
 have hb := h.at0
 have hq := h.q
 have hn := h.ok.len
 have hn4 := h.ok.wf.n1
 refine TF 24 Tryz.func241 Z ym tabOk Z Z ?_
 refine xdy ?_
 refine VC.loop (σ := Nat × Option Addr × Nat × List FM) (fun x => [(0, pV p), (3, .slice x.2.1 x.2.2.2.length x.2.2.1), (4, .int .i64 x.1)]) (fun x => [frH x.2.1 x.2.2.1 x.2.2.2]) (fun x => WaitI S.cls.length ((S.cls.take x.1).flatMap ClsM.q) x) (fun x => 4 - x.1) (0, none, 0, []) ⟨Nat.zero_le _, NR _, Z⟩ sbZ (Imp.slNil Imp.refl).ent ?_
 rintro ⟨i, a, c, gs⟩ ⟨hi, hroom, hgs⟩
 dsimp only at hi hroom hgs ⊢
 refine xfh ?_
 refine CP Z (fun h1 => CK ?_) (fun h1 => CX ?_)
 ·have hk : i < S.cls.length := by omega
  obtain ⟨r, cl, hr, hc, hok, hl⟩ := h.ok.row hk
  have hlen : r.xs.length = cl.q.length := by have := congrArg List.length hl; simpa using this
  have hql := h.ok.wf.qs cl (ME hc)
  have hcap := h.ok.wf.cap1
  have hlenA := h.ok.wf.few i
  have hgl : gs.length ≤ 64 := by
   have := congrArg List.length hgs
   rw [List.length_map] at this
   omega
  refine xfh ?_
  refine xlp ?_
  refine VG (VD Z Z (RdL.blk hq (rows_v hr)) ?_)
  have hrd : RdRow (⟨Tryz.prog, tab, tabOk, 24, Fr, w⟩ : Cx) [frH a c gs] r.v 29 r.xs.length (flat fmc r.xs) := by
   by_cases hx : r.xs = []
   ·exact ⟨by simp [hx, flat], .inl ⟨r.addr, r.cap, Z, by simp [hx]⟩⟩
   ·obtain ⟨b, off, h1, h2, h3⟩ := hok.at_ hx
    rw [RL.v, h2]
    exact RdRow.blk (h.row i r b hr h1) (flat_rows h3) (flat_len fmc_len _)
  refine VG (VO.append (m := r.xs.length) (news := flat fmc r.xs) 0 Z Z Z Z Z Z Z hrd (flat_all fmc_one _) (by show (gs.length + r.xs.length) * 288 ≤ _; omega) yd fun a' c' hc' => VG (VN ?_))
  refine zpg ?_
  have hL : (gs ++ r.xs).length = gs.length + r.xs.length := by simp
  refine ⟨(i + 1, a', c', gs ++ r.xs), ⟨hk, by dsimp only; rw [hL]; exact hc', ?_⟩, by dsimp only; omega, SC Z (SC yag sbZ), (Imp.of_eq ?_).ent⟩
  ·dsimp only; rw [List.map_append, hgs, hl, List.take_add_one, hc, List.flatMap_append]; simp
  ·dsimp only; rw [← hL, ← flat_append]; rfl
 ·have hk : i = S.cls.length := by omega
  subst hk
  rw [List.take_length] at hgs
  refine xdy ?_
  exact CR (Ret.tmp 2 Z Z ER ⟨a, c, gs, hgs, Z, Z⟩)
theorem push_spec (p : Nat) (a : Option Addr) (S : SchM) (f : FM) : Tri Tryz.prog 235 [.pointer (some ⟨p, 0, none⟩), .agg (fmc f).toArray] Fr w [rfH p a S] (fun v L => v = .int .i64 (S.pushM f.1).1 ∧ L = [rfH p a (S.pushM f.1).2]) := by
 refine TF 44 Tryz.func235 Z ym tabOk Z Z ?_
 refine CS (CG (VG (VB (vs := fmc f) Z fun b => VG (VN ?_))))
 refine VC.opn 1 Z (HOpn.rf p a S) fun s h => ?_
 refine CN (L' := pt b (fmc f) 46 :: rfL p S s) (Imp.perm List.perm_append_comm).ent ?_
 have hn := h.len
 have hn4 := h.wf.n1
 have out : ∀ {X : Cx}, Ent X (pt b (fmc f) 46 :: rfL p S s) [rfH p a S] := fun {X} => (Imp.trans Imp.tl (rf_shut s h Imp.refl)).ent
 refine xdy ?_
 refine VG (VV (fun Fr w hF _ hs => has_spec Fr w f.1.cls (hs.blk 1 Z)) Z ?_)
 refine VG (VO.split 11 Z Z (fun h1 => ?_) (fun h1 => ?_))
 ·have h1 : ¬ (0 ≤ f.1.cls ∧ f.1.cls < S.cls.length) := fun hx => by simp [hx] at h1
  refine zpy ?_
  have e : S.pushM f.1 = (2, S) := by simp only [SchM.pushM, SchM.at_out h1]
  exact xhd
 have h1 : 0 ≤ f.1.cls ∧ f.1.cls < S.cls.length := by simpa using h1
 obtain ⟨k, hfk⟩ := Int.eq_ofNat_of_zero_le h1.1
 have hk : k < S.cls.length := by omega
 obtain ⟨r, c, hr, hc, hok, hl⟩ := h.row hk
 have hlen : r.xs.length = c.q.length := by have := congrArg List.length hl; simpa using this
 have hat : S.at_ f.1.cls = some c := by rw [hfk, SchM.at_nat, hc]
 refine xdy ?_
 refine VG (VL 0 f.1.op.cells Z Z Z Z ?_)
 refine VG (VO.callV (fun Fr w => rcheck_spec Fr w f.1.op) Z (VG (VN ?_)))
 refine VC.condNE Z (fun h2 => ?_) (fun h2 => CK ?_)
 ·refine xdy ?_
  have e : S.pushM f.1 = (2, S) := by simp only [SchM.pushM, hat, if_pos h2]
  exact xhd
 have h2' : ¬ opCheck f.1.op ≠ 0 := fun hx => hx h2
 refine CS (CD (ts 0 9 .nil) ym yq ?_)
 refine xgz ?_
 refine xlq ?_
 refine VA.go (VA.ld 2 Z Z Z Z (rows_v hr) ?_)
 refine xeh ?_
 refine xgb ?_
 refine CP Z (fun h3 => ?_) (fun h3 => CK ?_)
 ·have h3 : ¬ c.q.length < S.cap := by have h3 : (S.cap : Int) ≤ r.xs.length := h3; omega
  refine xdy ?_
  have e : S.pushM f.1 = (60, S) := by simp only [SchM.pushM, hat, if_neg h2', if_neg h3]
  exact xhd
 have h3 : c.q.length < S.cap := by have h3 : ¬ (S.cap : Int) ≤ r.xs.length := h3; omega
 have hcap := h.wf.cap1
 have e : S.pushM f.1 = (0, S.setC k { c with q := c.q ++ [f.1] }) := by simp only [SchM.pushM, hat, if_neg h2', if_pos h3]; rw [hfk, Int.toNat_natCast]
 refine VC.meet (σ := Nat × FL) (fun _ => []) (fun x => x.2.h 46 :: pt p (rfC s S.cls.length S.cap S.turn S.fresh) 174 :: pt s.qb ((s.rows.map RL.v).set k x.2.v) 65 :: pt s.cb (crs S.cls) 3 :: pt s.sb (svs S.cls) 3 :: rfR s) (fun x => x.2.Ok fmc 29 ∧ x.2.xs = r.xs ++ [f]) ?_ ?_
 ·have hnf : ∀ {a2 : Option Addr} {c2 : Nat}, slH 46 29 a2 (0 + r.xs.length + 1) c2 ([] ++ flat fmc r.xs ++ fmc f) = slH 46 29 a2 (r.xs ++ [f]).length c2 (flat fmc (r.xs ++ [f])) := fun {a2 c2} => by simp [flat_append, flat_cons, flat_nil]
  have hvl : ∀ {a2 : Option Addr} {c2 : Nat}, Value.slice a2 (0 + r.xs.length + 1) c2 = Value.slice a2 (r.xs ++ [f]).length c2 := fun {a2 c2} => by simp
  have hkq : 0 + k * 1 < (s.rows.map RL.v).length := by simp; omega
  refine CD (ts 0 7 (.take 8 (.two 7 9 (.only 9 (.only 10 (.take 11 (.only 12 .nil)))) (.only 7 (.only 10 (.take 11 (.only 12 .nil))))))) ym yq ?_
  refine zqy ?_
  refine VA.ent (L' := slH 46 29 none 0 0 [] :: pt b (fmc f) 46 :: rfL p S s) (Imp.slNil Imp.refl).ent ?_
  refine VA.go (VA.two Z Z Z Z Z (OpT.append (m := r.xs.length) (news := flat fmc r.xs) 0 Z Z Z Z Z Z Z (RL.rd (t := 46) fmc_len hok (k + 6) (by simp [rfL, rf_h hr])) (flat_all fmc_one _) yby yd)
   rfl rfl rfl (OpT.buildSlice (n := 1) (pv := [(0, .agg (fmc f).toArray)]) (cells := fmc f) rfl rfl rfl rfl yy (fill_one rfl rfl rfl)) ?_ ?_ ?_ ?_)
  ·rintro v L' ⟨a1, c1, rfl, hc1, rfl⟩
   exact yr
  ·rintro v L' ⟨nb, rfl, rfl⟩
   exact yr
  ·rintro v L' ⟨a1, c1, rfl, hc1, rfl⟩
   refine VA.go (AO (OpT.buildSlice (n := 1) (pv := [(0, .agg (fmc f).toArray)]) (cells := fmc f) Z Z Z Z yy (fill_one Z Z Z)) Z ?_ ?_)
   ·rintro v L' ⟨nb, rfl, rfl⟩
    exact yr
   rintro v L' ⟨nb, rfl, rfl⟩
   refine VA.go (AO (OpT.append (m := 1) (news := fmc f) 1 Z Z Z Z Z Z Z (RdRow.pt 0 Z Z Z) Z ybz yd) Z ?_ ?_)
   ·rintro v L' ⟨a2, c2, rfl, hc2, rfl⟩
    exact yr
   rintro v L' ⟨a2, c2, rfl, hc2, rfl⟩
   refine xlr ?_
   refine VA.exs _ _ (HOpn.st 0 Z (HOpn.rl _ a2 c2 (r.xs ++ [f]) fmc_len)) ?_
   rintro r' ⟨hok', hv', hx'⟩
   refine xlq ?_
   refine xls ?_
   refine ⟨(nb, r'), ⟨hok', hx'⟩, SN _, (Imp.cons (Imp.trans Imp.tl Imp.tl)).ent⟩
  ·rintro v L' ⟨nb, rfl, rfl⟩
   refine VA.go (AO (OpT.append (m := r.xs.length) (news := flat fmc r.xs) 1 Z Z Z Z Z Z Z (RL.rd (t := 46) fmc_len hok (k + 7) (by simp [rfL, rf_h hr])) (flat_all fmc_one _) yby yd) Z ?_ ?_)
   ·rintro v L' ⟨a1, c1, rfl, hc1, rfl⟩
    exact yr
   rintro v L' ⟨a1, c1, rfl, hc1, rfl⟩
   refine VA.go (AO (OpT.append (m := 1) (news := fmc f) 0 Z Z Z Z Z Z Z (RdRow.pt 1 Z Z Z) Z ybz yd) Z ?_ ?_)
   ·rintro v L' ⟨a2, c2, rfl, hc2, rfl⟩
    exact yr
   rintro v L' ⟨a2, c2, rfl, hc2, rfl⟩
   refine xlr ?_
   refine VA.exs _ _ (HOpn.st 0 Z (HOpn.rl _ a2 c2 (r.xs ++ [f]) fmc_len)) ?_
   rintro r' ⟨hok', hv', hx'⟩
   refine xlq ?_
   refine xls ?_
   refine ⟨(nb, r'), ⟨hok', hx'⟩, SN _, (Imp.cons (Imp.trans Imp.tl Imp.tl)).ent⟩
 rintro ⟨nb, r'⟩ ⟨hok', hx'⟩
 dsimp only at hok' hx' ⊢
 refine xdy ?_
 have hks : k < s.rows.length := by omega
 have hwf : SchM.Wf ⟨S.cls.set k { c with q := c.q ++ [f.1] }, S.cap, S.turn, S.fresh⟩ := by
  have := h.wf.cls c (ME hc)
  exact h.wf.set hc ⟨this.q0, this.q1, this.c0, this.c1, this.s0, this.s1⟩ ye (h.wf.low k c hc)
 refine CR (Ret.int 4 Z Z Z ?_ ⟨by rw [e], by rw [e]⟩)
 refine (rf_shut _ (h.set (k := k) (c' := { c with q := c.q ++ [f.1] }) hok' (by rw [hx', List.map_append, hl]; rfl) hwf) ?_).ent
 refine Imp.trans ?_ (Imp.of_eq (L := pt p (rfC s S.cls.length S.cap S.turn S.fresh) 174 :: pt s.qb ((s.rows.map RL.v).set k r'.v) 65 :: pt s.cb (crs S.cls) 3 :: pt s.sb (svs S.cls) 3 :: rfR { s with rows := s.rows.set k r' }) ?_)
 ·exact IP 1 Z (IP 1 Z (IP 1 Z (IP 1 Z (rfR_put hks))))
 ·simp only [rfL, rfC, List.length_set, List.map_set]
  rw [crs_same (c' := { c with q := c.q ++ [f.1] }) hc rfl, svs_same (c' := { c with q := c.q ++ [f.1] }) hc rfl]
end Ref16
namespace Ref16
open Go Vg T Api Sched
attribute [local irreducible] VO VC VA
def preOk (qs : List Int) (cap : Int) : Bool := decide (1 ≤ qs.length) && decide (qs.length ≤ 4) && decide (1 ≤ cap) && decide (cap ≤ 16)
theorem pre_new {qs : List Int} {cap : Int} : newOk qs cap = (preOk qs cap && qs.all quantumOk) := rfl
def newRf (a : Option Addr) (qs : List Int) (cap : Int) (v : Value) (L : List HP) : Prop := if newOk qs cap = true then ∃ p, v = .tuple #[.pointer (some ⟨p, 0, none⟩), .int .i64 0] ∧ L = [rfH p a (SchM.new qs cap)] else v = .tuple #[.pointer none, .int .i64 2] ∧ L = []
theorem rep_flat {v : Value} (n : Nat) : (List.replicate n [v]).flatten = List.replicate n v := by
 induction n with
 | zero => rfl
 | succ n ih => rw [List.replicate_succ, List.flatten_cons, ih, List.replicate_succ]; rfl
theorem new_ok {a : Option Addr} {qs : List Int} {cap : Int} (s : RfS) (h : newOk qs cap = true) (hu : s.ua = a) (hr : s.rows = List.replicate qs.length RL.none) : RfOk (SchM.new qs cap) a s := by
 refine ⟨SchM.new_wf h, hu, by simp [hr, SchM.new], fun k r hk => ?_, fun k r c hk hc => ?_⟩
 ·rw [hr] at hk
  obtain rfl := List.eq_of_mem_replicate (ME hk)
  exact RL.none_ok
 ·rw [hr] at hk
  obtain rfl := List.eq_of_mem_replicate (ME hk)
  obtain ⟨q, _, rfl⟩ := List.mem_map.1 (ME hc)
  rfl
theorem pure_rows : ∀ n : Nat, Imp [] ((List.replicate n (RL.none : FL)).map fun r => r.h 46)
 | 0 => Imp.refl
 | n + 1 => by rw [List.replicate_succ, List.map_cons]; exact Imp.pure trivial (pure_rows n)
theorem new_spec (a : Option Addr) (qc : Nat) (qs : List Int) (cap : Int) (hq : IntsIn Fr w a qs) (h6 : qs.length ≤ 6) :
  Tri Tryz.prog 157 [.slice a qs.length qc, .int .i64 cap] Fr w [] (newRf a qs cap) := by
 refine TF 57 Tryz.func157 Z ym tabOk Z Z ?_
 refine CS (CG (VG (VN (CS (CG (VG (VN ?_)))))))
 refine VC.meet (σ := Bool) (fun ok => [(0, .slice a qs.length qc), (1, .int .i64 cap), (6, .int .i64 qs.length), (7, .bool ok)]) (fun _ => []) (fun ok => ok = preOk qs cap) ?_ ?_
 ·refine CG ?_
  refine VG (VO.split 13 Z Z (fun h1 => ?_) (fun h1 => VG (VY 17 false Z Z (VG (VY 21 false Z Z (VG (VN ?_)))))))
  ·have h1 := of_decide_eq_true h1
   refine VG (VO.split 17 Z Z (fun h2 => ?_) (fun h2 => VG (VY 21 false Z Z (VG (VN ?_)))))
   ·have h2 := of_decide_eq_true h2
    refine VG (VO.split 21 Z Z (fun h3 => ?_) (fun h3 => VG (VN ?_)))
    ·have h3 := of_decide_eq_true h3
     refine VG (VN ⟨_, ?_, SC Z (SC Z (SC Z (SC Z (SN _)))), ER⟩)
     have h1' : 1 ≤ qs.length := by omega
     have h2' : qs.length ≤ 4 := by omega
     simp [preOk, h1', h2', h3]
    ·have h3 := of_decide_eq_false h3
     refine ⟨false, ?_, sbZ, ER⟩
     simp [preOk, h3]
   ·have h2 := of_decide_eq_false h2
    have h2' : ¬ qs.length ≤ 4 := by omega
    refine ⟨false, ?_, sbZ, ER⟩
    simp [preOk, h2']
  ·have h1 := of_decide_eq_false h1
   have h1' : ¬ 1 ≤ qs.length := by omega
   refine ⟨false, ?_, sbZ, ER⟩
   simp [preOk, h1']
 rintro ok hok
 refine xdy ?_
 refine VC.loop (σ := Nat × Bool) (fun x => [(0, .slice a qs.length qc), (1, .int .i64 cap), (6, .int .i64 qs.length), (7, .bool x.2), (8, .int .i64 x.1)]) (fun _ => []) (fun x => x.1 ≤ qs.length ∧ x.2 = (preOk qs cap && (qs.take x.1).all quantumOk)) (fun x => 6 - x.1) (0, ok) ⟨Nat.zero_le _, by simp [hok]⟩ sbZ ER ?_
 clear hok ok
 rintro ⟨i, ok⟩ ⟨hi, hok⟩
 dsimp only at hi hok ⊢
 refine xdy ?_
 refine CP Z (fun h1 => CK ?_) (fun h1 => CX ?_)
 ·have hi2 : i < qs.length := by omega
  obtain ⟨b, off, ha, hF, hcell⟩ := hq.at_ (fun e => by rw [e] at hi2; simp at hi2)
  subst ha
  have hqi := GE hi2
  have htake : qs.take (i + 1) = qs.take i ++ [qs[i]] := by rw [List.take_add_one, hqi]; rfl
  generalize hqv : qs[i] = q at hqi htake
  have hc : w.cell? ⟨b, off + i * 1, none⟩ = some (.int .i64 q) := by rw [Nat.mul_one]; exact hcell i _ hqi
  have hall : (qs.take (i + 1)).all quantumOk = ((qs.take i).all quantumOk && quantumOk q) := by rw [htake, List.all_append]; simp
  refine xdy ?_
  refine VG (VO.split 31 Z Z (fun h2 => ?_) (fun h2 => VG (VY 38 false Z Z (VG (VN ?_)))))
  ·subst h2
   refine xfv ?_
   refine VG (VD Z Z (RdL.rd (v := .int .i64 q) hF hc) ?_)
   refine VG (VO.split 38 Z Z (fun h3 => ?_) (fun h3 => VG (VN ?_)))
   ·have h3 := of_decide_eq_true h3
    refine xfv ?_
    refine VG (VD Z Z (RdL.rd (v := .int .i64 q) hF hc) (VG (VN ?_)))
    refine zpg ?_
    refine ⟨(i + 1, decide (q ≤ 65536)), ⟨hi2, ?_⟩, by dsimp only; omega, sbZ, ER⟩
    dsimp only
    rw [hall, ← Bool.and_assoc, ← hok]
    simp [quantumOk, h3]
   ·have h3 := of_decide_eq_false h3
    refine zpg ?_
    refine ⟨(i + 1, false), ⟨hi2, ?_⟩, by dsimp only; omega, sbZ, ER⟩
    dsimp only
    rw [hall]
    simp [quantumOk, h3]
  ·subst h2
   refine zpg ?_
   refine ⟨(i + 1, false), ⟨hi2, ?_⟩, by dsimp only; omega, sbZ, ER⟩
   dsimp only
   rw [hall, ← Bool.and_assoc, ← hok]; rfl
 have hi2 : i = qs.length := by omega
 subst hi2
 rw [List.take_length, ← pre_new] at hok
 subst hok
 refine xdy ?_
 refine VC.condN Z (fun h2 => ?_) (fun h2 => CK ?_)
 ·refine xdy ?_
  refine CR (Ret.tmp2 4 5 Z Z Z ER ?_)
  unfold newRf; rw [if_neg (by rw [h2]; simp)]; exact ⟨rfl, rfl⟩
 have hwf := SchM.new_wf h2
 have hn4 : qs.length ≤ 4 := by simpa [SchM.new] using hwf.n1
 refine VC.meet (σ := Nat × Nat × Nat × Nat) (fun x => [(4, .pointer (some ⟨x.1, 0, none⟩)), (5, .int .i64 0)]) (fun x => [rfH x.1 a (SchM.new qs cap)]) (fun _ => True) ?_ ?_
 rotate_left
 ·rintro ⟨p, qb, cb, sb⟩ _
  refine CR (Ret.tmp2 4 5 Z Z Z ER ?_)
  unfold newRf; rw [if_pos h2]; exact ⟨p, rfl, rfl⟩
 have hcap : (cap.toNat : Int) = cap := by have := hwf.cap0; simp [SchM.new] at this; omega
 have fin : ∀ {p qb cb sb : Nat}, Imp [pt p [.int .i64 cap, .slice a qs.length qc, .slice (some ⟨qb, 0, none⟩) qs.length qs.length, .slice (some ⟨cb, 0, none⟩) qs.length qs.length, .slice (some ⟨sb, 0, none⟩) qs.length qs.length, .int .i64 0, .bool true] 174, pt qb (List.replicate qs.length [Value.slice none 0 0]).flatten 65, pt cb (List.replicate qs.length [Value.int .i64 0]).flatten 3, pt sb (List.replicate qs.length [Value.int .i64 0]).flatten 3] [rfH p a (SchM.new qs cap)] := fun {p qb cb sb} => by
  refine rf_shut ⟨a, qc, qb, qs.length, cb, qs.length, sb, qs.length, List.replicate qs.length RL.none⟩ (new_ok _ h2 Z Z) ?_
  refine Imp.trans (Imp.app (L := [_, _, _, _]) (M := [_, _, _, _]) Imp.refl (pure_rows qs.length)) (Imp.of_eq ?_)
  simp only [rep_flat, List.cons_append, List.nil_append, rfL, rfC, crs, svs, rfR, SchM.new, List.map_map, List.length_map, hcap, List.map_replicate]
  congr 3
  ·simp [Function.comp_def, clsNew, List.map_const']
  ·simp [Function.comp_def, clsNew, List.map_const']
 refine CD (ts 0 3 (.take 4 (.take 6 (.three 3 5 7 (.two 5 7 (.only 7 (.take 8 (.only 9 (ts 10 2 .nil)))) (.only 5 (.take 8 (.only 9 (ts 10 2 .nil))))) (.two 3 7 (.only 7 (.take 8 (.only 9 (ts 10 2 .nil)))) (.only 3 (.take 8 (.only 9 (ts 10 2 .nil))))) (.two 3 5 (.only 5 (.take 8 (.only 9 (ts 10 2 .nil)))) (.only 3 (.take 8 (.only 9 (ts 10 2 .nil))))))))) ym yq ?_
 refine xeh ?_
 refine VA.go (VA.three Z Z Z Z Z Z (OpT.makeSlice qs.length Z Z Z Z Z yd ycb) Z Z Z (OpT.makeSlice qs.length Z Z Z Z Z yd ycc) Z Z Z (OpT.makeSlice qs.length Z Z Z Z Z yd ycc) (fun v L' _ => yr) (fun v L' _ => yr) (fun v L' _ => yr) ?_ ?_ ?_)
 ·rintro _ _ ⟨qb, rfl, rfl⟩
  refine VA.go (VA.two Z Z Z Z Z (OpT.makeSlice qs.length Z Z Z Z Z yd ycc) Z Z Z (OpT.makeSlice qs.length Z Z Z Z Z yd ycc) (fun v L' _ => yr) (fun v L' _ => yr) ?_ ?_)
  ·rintro _ _ ⟨cb, rfl, rfl⟩
   refine xlt ?_
   rintro _ _ ⟨sb, rfl, rfl⟩
   refine zri ?_
   rintro _ _ ⟨p, rfl, rfl⟩
   refine xeh ?_
   exact ⟨(p, qb, cb, sb), trivial, sbZ, (Imp.trans (Imp.cons (IP 2 Z (IP 1 Z (IP 0 Z Imp.refl)))) fin).ent⟩
  ·rintro _ _ ⟨sb, rfl, rfl⟩
   refine xlt ?_
   rintro _ _ ⟨cb, rfl, rfl⟩
   refine zri ?_
   rintro _ _ ⟨p, rfl, rfl⟩
   refine xeh ?_
   exact ⟨(p, qb, cb, sb), trivial, sbZ, (Imp.trans (Imp.cons (IP 2 Z (IP 0 Z (IP 0 Z Imp.refl)))) fin).ent⟩
 ·rintro _ _ ⟨cb, rfl, rfl⟩
  refine VA.go (VA.two Z Z Z Z Z (OpT.makeSlice qs.length Z Z Z Z Z yd ycb) Z Z Z (OpT.makeSlice qs.length Z Z Z Z Z yd ycc) (fun v L' _ => yr) (fun v L' _ => yr) ?_ ?_)
  ·rintro _ _ ⟨qb, rfl, rfl⟩
   refine xlt ?_
   rintro _ _ ⟨sb, rfl, rfl⟩
   refine zri ?_
   rintro _ _ ⟨p, rfl, rfl⟩
   refine xeh ?_
   exact ⟨(p, qb, cb, sb), trivial, sbZ, (Imp.trans (Imp.cons (IP 1 Z (IP 1 Z (IP 0 Z Imp.refl)))) fin).ent⟩
  ·rintro _ _ ⟨sb, rfl, rfl⟩
   refine xlw ?_
   rintro _ _ ⟨qb, rfl, rfl⟩
   refine zri ?_
   rintro _ _ ⟨p, rfl, rfl⟩
   refine xeh ?_
   exact ⟨(p, qb, cb, sb), trivial, sbZ, (Imp.trans (Imp.cons (IP 0 Z (IP 1 Z (IP 0 Z Imp.refl)))) fin).ent⟩
 ·rintro _ _ ⟨sb, rfl, rfl⟩
  refine VA.go (VA.two Z Z Z Z Z (OpT.makeSlice qs.length Z Z Z Z Z yd ycb) Z Z Z (OpT.makeSlice qs.length Z Z Z Z Z yd ycc) (fun v L' _ => yr) (fun v L' _ => yr) ?_ ?_)
  ·rintro _ _ ⟨qb, rfl, rfl⟩
   refine xlt ?_
   rintro _ _ ⟨cb, rfl, rfl⟩
   refine zri ?_
   rintro _ _ ⟨p, rfl, rfl⟩
   refine xeh ?_
   exact ⟨(p, qb, cb, sb), trivial, sbZ, (Imp.trans (Imp.cons (IP 1 Z (IP 0 Z (IP 0 Z Imp.refl)))) fin).ent⟩
  ·rintro _ _ ⟨cb, rfl, rfl⟩
   refine xlw ?_
   rintro _ _ ⟨qb, rfl, rfl⟩
   refine zri ?_
   rintro _ _ ⟨p, rfl, rfl⟩
   refine xeh ?_
   exact ⟨(p, qb, cb, sb), trivial, sbZ, (Imp.trans (Imp.cons (IP 0 Z (IP 0 Z (IP 0 Z Imp.refl)))) fin).ent⟩
end Ref16
end Go.Proofs.YtbbnmgakmcppdaaGreat
