/- Nodes: how they lie in memory, what is asked of them, and what they tell. No condition. -/
import Derived.Test.YtbbnmgakmcppdaaGreatWin
import Derived.Test.YtbbnmgakmcppdaaGreatLgC
import Derived.Test.YtbbnmgakmcppdaaGreatRd2
import Derived.Test.YtbbnmgakmcppdaaGreatAdm4
import Derived.Test.YtbbnmgakmcppdaaGreatSchedV
import Derived.Test.YtbbnmgakmcppdaaGreatALaw
namespace Go.Proofs.YtbbnmgakmcppdaaGreat.Rep
open Go Go.Proofs.YtbbnmgakmcppdaaGreat.Vg Go.Proofs.YtbbnmgakmcppdaaGreat.T Go.Proofs.YtbbnmgakmcppdaaGreat.Api Go.Proofs.YtbbnmgakmcppdaaGreat.Kv Go.Proofs.YtbbnmgakmcppdaaGreat.Ch Go.Proofs.YtbbnmgakmcppdaaGreat.Lg Go.Proofs.YtbbnmgakmcppdaaGreat.Rd Go.Proofs.YtbbnmgakmcppdaaGreat.Win Go.Proofs.YtbbnmgakmcppdaaGreat.Adm
set_option linter.unusedSimpArgs false
set_option linter.unusedVariables false
attribute [local irreducible] VO VC VA

/-! ### What is to be sent -/
abbrev SndM := Int × FrameM
def mem0 : MemG := (none, 0, 0)
def sndC (s : SndM) : List Value := .int .i64 s.1 :: fgC s.2 mem0
theorem sndC_len (s : SndM) : (sndC s).length = 30 := rfl
theorem sndC_one (s : SndM) : (sndC s).all Value.oneCell' = true := rfl
abbrev sndT : TypeId := 50
abbrev outT : TypeId := 117
abbrev repT : TypeId := 102
def outL (b : Nat) (S : List SndM) (x : Option Addr × Nat) : List HP := [pt b [.slice x.1 S.length x.2] outT, slH sndT 30 x.1 S.length x.2 (flat sndC S)]
def outH (b : Nat) (S : List SndM) : HP := hex fun x => hsep (outL b S x)
theorem HOpn.out (b : Nat) (S : List SndM) : HOpn (ι := Option Addr × Nat) (outH b S) (fun _ => True) (fun x => outL b S x) := fun w ids ⟨x, h⟩ hn => ⟨x, trivial, ids, h, hn, fun _ h => h⟩
theorem Imp.out {b : Nat} {S : List SndM} {L M : List HP} (x : Option Addr × Nat) (h : Imp L (outL b S x ++ M)) : Imp L (outH b S :: M) :=
  Imp.ex (f := fun x => hsep (outL b S x)) x (Imp.sep (Ls := outL b S x) h)
/-- What frames are handed to. -/
def sendF (b : Nat) : Value := fnV 56 [.pointer (some ⟨b, 0, none⟩)] []
set_option maxRecDepth 100000 in
theorem add_spec (Fr : Nat → Prop) (w : World) (b : Nat) (S : List SndM) (hS : S.length ≤ 1000000) (to_ : Int) (f : FrameM) : Tri Tryz.prog 56 [.pointer (some ⟨b, 0, none⟩), .int .i64 to_, .agg (fgC f mem0).toArray] Fr w [outH b S] (fun v L => v = .tuple #[] ∧ L = [outH b (S ++ [(to_, f)])]) := by
  refine Tri.of 18 Tryz.func56 rfl (by kernel_rfl) tabOk rfl rfl ?_
  refine VC.seq (VC.region (VO.go (VO.boxA (vs := fgC f mem0) rfl fun fb => VO.go (VO.nil ?_))))
  refine VC.opn 1 rfl (HOpn.out b S) ?_
  rintro ⟨a, c⟩ -
  show VC _ _ _ [pt b [.slice a S.length c] outT, slH sndT 30 a S.length c (flat sndC S), pt fb (fgC f mem0) frT] _
  refine VC.draw (ts 0 8 (.only 8 (.only 9 (ts 10 2 (.only 12 .nil))))) (by kernel_rfl) (by decide +kernel) ?_
  (repeat (first|refine yG (yN ?_)|refine yG (yD 0 rfl rfl rfl rfl rfl ?_)))
  refine VA.go (VA.ldA 2 (fgC f mem0) rfl rfl rfl rfl rfl ?_)
  refine VA.go (VA.light rfl (light_build (pv := [(0, .int .i64 to_), (1, .agg (fgC f mem0).toArray)]) (sndC (to_, f)) rfl rfl rfl (by kernel_rfl) rfl) ?_)
  refine VA.go (VA.opP (OpT.buildSlice (n := 1) (pv := [(0, .agg (sndC (to_, f)).toArray)]) (cells := sndC (to_, f)) rfl rfl rfl rfl (by decide) (fill_one rfl rfl rfl)) rfl ?_ ?_)
  · rintro _ _ ⟨nb, rfl, rfl⟩
    exact (by (try refine Pd.st ?_);(repeat (first|exact Pd.nil|exact Pd.fnil|refine Pd.inner ?_|refine Pd.skip (by decide +kernel) ?_|refine zf (zo 0 rfl rfl) ?_|refine zf (zo 1 rfl rfl) ?_|refine zf (zo 2 rfl rfl) ?_|refine zf (zo 3 rfl rfl) ?_|refine zf (zm 0 rfl rfl) ?_|refine zf (zm 1 rfl rfl) ?_|refine zf (zm 2 rfl rfl) ?_|refine zf (zm 3 rfl rfl) ?_|refine zc (zo 0 rfl rfl) ?_|refine zc (zo 1 rfl rfl) ?_|refine zc (zo 2 rfl rfl) ?_|refine zc (zo 3 rfl rfl) ?_|refine zc (zm 0 rfl rfl) ?_|refine zc (zm 1 rfl rfl) ?_|refine zc (zm 2 rfl rfl) ?_|refine zc (zm 3 rfl rfl) ?_)))
  rintro _ _ ⟨nb, rfl, rfl⟩
  refine VA.go (VA.opP (OpT.append (m := 1) (news := sndC (to_, f)) 2 rfl rfl rfl rfl rfl rfl rfl (RdRow.pt 0 rfl rfl rfl) rfl (small_bytes (k := 1000001) (by omega) (by decide)) (by omega)) rfl ?_ ?_)
  · rintro _ _ ⟨a1, c1, rfl, hc1, rfl⟩
    exact (by (try refine Pd.st ?_);(repeat (first|exact Pd.nil|exact Pd.fnil|refine Pd.inner ?_|refine Pd.skip (by decide +kernel) ?_|refine zf (zo 0 rfl rfl) ?_|refine zf (zo 1 rfl rfl) ?_|refine zf (zo 2 rfl rfl) ?_|refine zf (zo 3 rfl rfl) ?_|refine zf (zm 0 rfl rfl) ?_|refine zf (zm 1 rfl rfl) ?_|refine zf (zm 2 rfl rfl) ?_|refine zf (zm 3 rfl rfl) ?_|refine zc (zo 0 rfl rfl) ?_|refine zc (zo 1 rfl rfl) ?_|refine zc (zo 2 rfl rfl) ?_|refine zc (zo 3 rfl rfl) ?_|refine zc (zm 0 rfl rfl) ?_|refine zc (zm 1 rfl rfl) ?_|refine zc (zm 2 rfl rfl) ?_|refine zc (zm 3 rfl rfl) ?_)))
  rintro _ _ ⟨a1, c1, rfl, hc1, rfl⟩
  (repeat (first|refine yG (yN ?_)|refine yG (yD 0 rfl rfl rfl rfl rfl ?_)|refine yG (yD 1 rfl rfl rfl rfl rfl ?_)|refine yG (yD 2 rfl rfl rfl rfl rfl ?_)|refine yG (yD 3 rfl rfl rfl rfl rfl ?_)))
  refine VA.go (VA.st 2 (cs' := [.slice a1 (S.length + 1) c1]) rfl rfl rfl rfl rfl (Nat.le_of_ble_eq_true rfl) rfl rfl (by (try refine Pd.st ?_);(repeat (first|exact Pd.nil|exact Pd.fnil|refine Pd.inner ?_|refine Pd.skip (by decide +kernel) ?_|refine zf (zo 0 rfl rfl) ?_|refine zf (zo 1 rfl rfl) ?_|refine zf (zo 2 rfl rfl) ?_|refine zf (zo 3 rfl rfl) ?_|refine zf (zm 0 rfl rfl) ?_|refine zf (zm 1 rfl rfl) ?_|refine zf (zm 2 rfl rfl) ?_|refine zf (zm 3 rfl rfl) ?_|refine zc (zo 0 rfl rfl) ?_|refine zc (zo 1 rfl rfl) ?_|refine zc (zo 2 rfl rfl) ?_|refine zc (zo 3 rfl rfl) ?_|refine zc (zm 0 rfl rfl) ?_|refine zc (zm 1 rfl rfl) ?_|refine zc (zm 2 rfl rfl) ?_|refine zc (zm 3 rfl rfl) ?_))) ?_)
  (repeat (first|refine yG (yN ?_)|refine yG (yD 0 rfl rfl rfl rfl rfl ?_)|refine yG (yD 1 rfl rfl rfl rfl rfl ?_)|refine yG (yD 2 rfl rfl rfl rfl rfl ?_)|refine yG (yD 3 rfl rfl rfl rfl rfl ?_)))
  refine Ret.void rfl (Imp.out (S := S ++ [(to_, f)]) (a1, c1) ?_).ent ⟨rfl, rfl⟩
  unfold outL
  rw [List.length_append, flat_append, flat_cons, flat_nil, List.append_nil]
  exact Imp.pick 2 rfl (Imp.pick 0 rfl Imp.nil)

/-! ### Nodes -/
structure RepM where
  id : Int
  clients : Int
  cap : Int
  most : Int
  ch : ChM
  since : Int
  whole : Bool
  log : List EntryM
  win : WinM
  adm : AdmM
  rds : RdsM
  start : Int
  base : Int
  linked : Bool
  have_ : Int
structure RepS where
  a : Option Addr
  c : Nat
  lp : Nat
  wp : Nat
  ap : Nat
  rp : Nat
def repCs (R : RepM) (x : RepS) : List Value := [.int .i64 R.id, .int .i64 R.clients, .int .i64 R.cap, .int .i64 R.most, .int .i64 R.ch.epoch, .slice x.a R.ch.ms.length x.c, .int .i64 R.ch.drain, .int .i64 R.since, .bool R.whole,
  .pointer (some ⟨x.lp, 0, none⟩), .pointer (some ⟨x.wp, 0, none⟩), .pointer (some ⟨x.ap, 0, none⟩), .pointer (some ⟨x.rp, 0, none⟩), .int .i64 R.start, .int .i64 R.base, .bool R.linked, .int .i64 R.have_]
def repL (p : Nat) (R : RepM) (x : RepS) : List HP := [pt p (repCs R x) repT, slH memT 2 x.a R.ch.ms.length x.c (flat memC R.ch.ms), logH x.lp R.log, winH x.wp R.win, admH x.ap R.adm, rdsH x.rp R.rds]
def repH (p : Nat) (R : RepM) : HP := hex fun x => hsep (repL p R x)
theorem HOpn.rep (p : Nat) (R : RepM) : HOpn (ι := RepS) (repH p R) (fun _ => True) (fun x => repL p R x) := fun w ids ⟨x, h⟩ hn => ⟨x, trivial, ids, h, hn, fun _ h => h⟩
theorem Imp.rep {p : Nat} {R : RepM} {L M : List HP} (x : RepS) (h : Imp L (repL p R x ++ M)) : Imp L (repH p R :: M) :=
  Imp.ex (f := fun x => hsep (repL p R x)) x (Imp.sep (Ls := repL p R x) h)
structure RepIn (Fr : Nat → Prop) (w : World) (p : Nat) (R : RepM) (x : RepS) : Prop where
  blk : Blk Fr w p (repCs R x)
  mem : RwIn memC 2 Fr w x.a R.ch.ms
  log : SatIn Fr [logH x.lp R.log] w
  win : Blk Fr w x.wp R.win.cells
  adm : SatIn Fr [admH x.ap R.adm] w
  rds : SatIn Fr [rdsH x.rp R.rds] w
theorem RepIn.pcs {Fr : Nat → Prop} {w : World} {L : List HP} {p : Nat} {R : RepM} {x : RepS} (h : SatIn Fr L w) (i : Nat) (h0 : L[i]? = some (pt p (repCs R x) repT)) (h1 : L[i + 1]? = some (slH memT 2 x.a R.ch.ms.length x.c (flat memC R.ch.ms)))
    (h2 : L[i + 2]? = some (logH x.lp R.log)) (h3 : L[i + 3]? = some (winH x.wp R.win)) (h4 : L[i + 4]? = some (admH x.ap R.adm)) (h5 : L[i + 5]? = some (rdsH x.rp R.rds)) : RepIn Fr w p R x :=
  ⟨h.blk i h0, RwIn.slH memC_len (h.at_ _ h1), h.at_ _ h2, h.blk _ h3, h.at_ _ h4, h.at_ _ h5⟩
theorem RepIn.of' {Fr : Nat → Prop} {w : World} {p : Nat} {R : RepM} (h : SatIn Fr [repH p R] w) : ∃ x, RepIn Fr w p R x := by
  obtain ⟨x, h⟩ := h.ex
  exact ⟨x, RepIn.pcs h.sep 0 rfl rfl rfl rfl rfl rfl⟩
theorem RepIn.of {X : Cx} {p : Nat} {R : RepM} {x : RepS} (h : RepIn X.Fr X.w0 p R x) {Fr' : Nat → Prop} {w : World} {L : List HP} (hF : ∀ b, X.Fr b → Fr' b) (hs : St X L w) : RepIn Fr' w p R x :=
  ⟨h.blk.of hF hs, RwIn.of h.mem hF hs, h.log.of hF hs, h.win.of hF hs, h.adm.of hF hs, h.rds.of hF hs⟩
structure ChS (c : ChM) : Prop where
  len : c.ms.length ≤ 1000
section
variable {p : Nat} {R : RepM} {x : RepS} {b : Nat} {S : List SndM}
theorem made_spec (Fr : Nat → Prop) (w : World) (h : Blk Fr w p (repCs R x)) : Tri Tryz.prog 55 [.pointer (some ⟨p, 0, none⟩)] Fr w [] (fun v L => v = .bool true ∧ L = []) := by
  refine Tri.of 12 Tryz.func55 rfl (by kernel_rfl) tabOk rfl rfl ?_
  (repeat (first|refine zS ?_|refine zR ?_|refine zB ?_|refine zL ?_|refine zC ?_|refine zG (zN ?_)|refine zG (zD 0 rfl rfl rfl rfl ?_)))
  refine VO.go (VO.split 5 rfl rfl (fun _ => ?_) (fun h => by cases h))
  (repeat (first|refine zS ?_|refine zR ?_|refine zB ?_|refine zL ?_|refine zC ?_|refine zG (zN ?_)|refine zG (zE rfl rfl (RdL.blk h rfl) ?_)))
  exact VC.ret (Ret.bool 2 rfl rfl rfl Ent.refl ⟨rfl, rfl⟩)
def RepM.inB (R : RepM) : Bool := decide (0 < R.since)
theorem in_spec (Fr : Nat → Prop) (w : World) (h : Blk Fr w p (repCs R x)) : Tri Tryz.prog 150 [.pointer (some ⟨p, 0, none⟩)] Fr w [] (fun v L => v = .bool R.inB ∧ L = []) := by
  refine Tri.of 8 Tryz.func150 rfl (by kernel_rfl) tabOk rfl rfl ?_
  (repeat (first|refine zS ?_|refine zR ?_|refine zB ?_|refine zL ?_|refine zC ?_|refine zG (zN ?_)|refine zG (zE rfl rfl (RdL.blk h rfl) ?_)))
  exact VC.ret (Ret.bool 2 rfl rfl rfl Ent.refl ⟨rfl, rfl⟩)
def RepM.knownB (R : RepM) (f : FrameM) : Bool := f.epoch == R.ch.epoch
set_option maxRecDepth 100000 in
theorem known_spec (Fr : Nat → Prop) (w : World) (h : Blk Fr w p (repCs R x)) (f : FrameM) (m : MemG) : Tri Tryz.prog 62 [.pointer (some ⟨p, 0, none⟩), .agg (fgC f m).toArray] Fr w [] (fun v L => v = .bool (R.knownB f) ∧ L = []) := by
  refine Tri.of 13 Tryz.func62 rfl (by kernel_rfl) tabOk rfl rfl ?_
  refine VC.seq (VC.region (VO.go (VO.boxA (vs := fgC f m) rfl fun fb => VO.go (VO.nil ?_))))
  refine VC.seq (VC.draw (ts 0 9 .nil) (by kernel_rfl) (by decide +kernel) ?_)
  (repeat (first|refine yG (yN ?_)|refine yG (yD 0 rfl rfl rfl rfl rfl ?_)|refine yG (yE rfl rfl rfl (RdL.blk h rfl) ?_)))
  exact VC.ret (Ret.bool 4 rfl rfl rfl Imp.nil.ent ⟨rfl, rfl⟩)
def isNodeB (from_ nb : Int) : Bool := decide (0 ≤ nb) && (from_ == nb)
theorem isNode_spec (Fr : Nat → Prop) (w : World) (f n : Int) : Tri Tryz.prog 63 [.int .i64 f, .int .i64 n] Fr w [] (fun v L => v = .bool (isNodeB f n) ∧ L = []) := by
  refine Tri.of 12 Tryz.func63 rfl (by kernel_rfl) tabOk rfl rfl ?_
  (repeat (first|refine zS ?_|refine zR ?_|refine zB ?_|refine zL ?_|refine zC ?_|refine zG (zN ?_)|refine zG (zD 0 rfl rfl rfl rfl ?_)))
  by_cases h1 : 0 ≤ n
  · refine VO.go (VO.yes 7 true rfl (decide_eq_true h1) ?_)
    (repeat (first|refine zS ?_|refine zR ?_|refine zB ?_|refine zL ?_|refine zC ?_|refine zG (zN ?_)|refine zG (zD 0 rfl rfl rfl rfl ?_)|refine zG (zU rfl rfl rfl ?_)))
    exact VC.ret (Ret.bool 4 rfl rfl (by rw [isNodeB, decide_eq_true h1]; rfl) Ent.refl ⟨rfl, rfl⟩)
  · refine VO.go (VO.yes 7 false rfl (decide_eq_false h1) ?_)
    (repeat (first|refine zS ?_|refine zR ?_|refine zB ?_|refine zL ?_|refine zC ?_|refine zG (zN ?_)|refine zG (zD 0 rfl rfl rfl rfl ?_)|refine zG (zU rfl rfl rfl ?_)))
    exact VC.ret (Ret.bool 4 rfl rfl (by rw [isNodeB, decide_eq_false h1]; rfl) Ent.refl ⟨rfl, rfl⟩)
def RepM.prevM (R : RepM) : Int := prevOf R.ch R.id
def RepM.nextM (R : RepM) : Int := nextOf R.ch R.id
set_option maxRecDepth 100000 in
theorem prev_spec (Fr : Nat → Prop) (w : World) (h : Blk Fr w p (repCs R x)) (hm : RwIn memC 2 Fr w x.a R.ch.ms) (hc : ChS R.ch) : Tri Tryz.prog 64 [.pointer (some ⟨p, 0, none⟩)] Fr w [] (fun v L => v = .int .i64 R.prevM ∧ L = []) := by
  have hcl := hc.len
  refine Tri.of 12 Tryz.func64 rfl (by kernel_rfl) tabOk rfl rfl ?_
  refine VC.seq (VC.region (VO.go (VO.nil ?_)))
  refine VC.seq (VC.draw (ts 0 8 (.only 8 (.take 9 .nil))) (by kernel_rfl) (by decide +kernel) ?_)
  (repeat (first|refine yG (yN ?_)|refine yG (yE rfl rfl rfl (RdL.blk h rfl) ?_)))
  refine VA.go (VA.load rfl rfl rfl (RdL.blkA (ds := R.ch.cells x.a x.c) h rfl) ?_)
  (repeat (first|refine yG (yN ?_)|refine yG (yE rfl rfl rfl (RdL.blk h rfl) ?_)))
  refine VA.go (VA.callR (fun Fr w hF hs hS => Ch.prev_spec Fr w (hm.of hF hs) (by omega) R.id) rfl rfl (by (try refine Pd.st ?_);(repeat (first|exact Pd.nil|exact Pd.fnil|refine Pd.inner ?_|refine Pd.skip (by decide +kernel) ?_|refine zf (RdL.blk (RdL.blk h rfl) rfl) ?_|refine zf (RdL.blk (RdL.blkA (ds := R.ch.cells x.a x.c) h rfl) rfl) ?_|refine zf ((RdL.blk h rfl)) ?_|refine zf ((RdL.blkA (ds := R.ch.cells x.a x.c) h rfl)) ?_|refine zc (RdL.blk (RdL.blk h rfl) rfl) ?_|refine zc (RdL.blk (RdL.blkA (ds := R.ch.cells x.a x.c) h rfl) rfl) ?_|refine zc ((RdL.blk h rfl)) ?_|refine zc ((RdL.blkA (ds := R.ch.cells x.a x.c) h rfl)) ?_))) ?_)
  (repeat (first|refine yG (yN ?_)|refine yG (yD 0 rfl rfl rfl rfl rfl ?_)))
  exact VC.ret (Ret.tmp 2 rfl rfl Ent.refl ⟨rfl, rfl⟩)
set_option maxRecDepth 100000 in
theorem next_spec (Fr : Nat → Prop) (w : World) (h : Blk Fr w p (repCs R x)) (hm : RwIn memC 2 Fr w x.a R.ch.ms) (hc : ChS R.ch) : Tri Tryz.prog 66 [.pointer (some ⟨p, 0, none⟩)] Fr w [] (fun v L => v = .int .i64 R.nextM ∧ L = []) := by
  have hcl := hc.len
  refine Tri.of 12 Tryz.func66 rfl (by kernel_rfl) tabOk rfl rfl ?_
  refine VC.seq (VC.region (VO.go (VO.nil ?_)))
  refine VC.seq (VC.draw (ts 0 8 (.only 8 (.take 9 .nil))) (by kernel_rfl) (by decide +kernel) ?_)
  (repeat (first|refine yG (yN ?_)|refine yG (yE rfl rfl rfl (RdL.blk h rfl) ?_)))
  refine VA.go (VA.load rfl rfl rfl (RdL.blkA (ds := R.ch.cells x.a x.c) h rfl) ?_)
  (repeat (first|refine yG (yN ?_)|refine yG (yE rfl rfl rfl (RdL.blk h rfl) ?_)))
  refine VA.go (VA.callR (fun Fr w hF hs hS => Ch.next_spec Fr w (hm.of hF hs) (by omega) R.id) rfl rfl (by (try refine Pd.st ?_);(repeat (first|exact Pd.nil|exact Pd.fnil|refine Pd.inner ?_|refine Pd.skip (by decide +kernel) ?_|refine zf (RdL.blk (RdL.blk h rfl) rfl) ?_|refine zf (RdL.blk (RdL.blkA (ds := R.ch.cells x.a x.c) h rfl) rfl) ?_|refine zf ((RdL.blk h rfl)) ?_|refine zf ((RdL.blkA (ds := R.ch.cells x.a x.c) h rfl)) ?_|refine zc (RdL.blk (RdL.blk h rfl) rfl) ?_|refine zc (RdL.blk (RdL.blkA (ds := R.ch.cells x.a x.c) h rfl) rfl) ?_|refine zc ((RdL.blk h rfl)) ?_|refine zc ((RdL.blkA (ds := R.ch.cells x.a x.c) h rfl)) ?_))) ?_)
  (repeat (first|refine yG (yN ?_)|refine yG (yD 0 rfl rfl rfl rfl rfl ?_)))
  exact VC.ret (Ret.tmp 2 rfl rfl Ent.refl ⟨rfl, rfl⟩)
def RepM.headB (R : RepM) : Bool := R.inB && (headOf R.ch == R.id)
def RepM.tailB (R : RepM) : Bool := R.inB && (tailOf R.ch == R.id)
def RepM.drainsB (R : RepM) : Bool := R.inB && (R.ch.drain == R.id)
set_option maxRecDepth 100000 in
theorem head_spec (Fr : Nat → Prop) (w : World) (h : Blk Fr w p (repCs R x)) (hm : RwIn memC 2 Fr w x.a R.ch.ms) (hc : ChS R.ch) : Tri Tryz.prog 82 [.pointer (some ⟨p, 0, none⟩)] Fr w [] (fun v L => v = .bool R.headB ∧ L = []) := by
  have hcl := hc.len
  refine Tri.of 17 Tryz.func82 rfl (by kernel_rfl) tabOk rfl rfl ?_
  refine VC.seq (VC.region (VO.go (VO.nil ?_)))
  refine VC.seq (VC.draw (.take 0 (.only 1 (ts 2 5 (ts 8 4 (.only 7 (ts 12 3 .nil)))))) (by kernel_rfl) (by decide +kernel) ?_)
  refine VA.go (VA.callR (fun Fr w hF hs hS => in_spec Fr w (h.of hF hs)) rfl rfl (by (try refine Pd.st ?_);(repeat (first|exact Pd.nil|exact Pd.fnil|refine Pd.inner ?_|refine Pd.skip (by decide +kernel) ?_))) ?_)
  (repeat (first|refine yG (yN ?_)|refine yG (yD 0 rfl rfl rfl rfl rfl ?_)))
  cases hi : R.inB with
  | true =>
    refine VA.go (VA.yes 5 true rfl rfl ?_)
    (repeat (first|refine yG (yN ?_)|refine yG (yE rfl rfl rfl (RdL.blk h rfl) ?_)|refine yG (yU rfl rfl rfl rfl ?_)))
    refine VA.go (VA.load rfl rfl rfl (RdL.blkA (ds := R.ch.cells x.a x.c) h rfl) ?_)
    (repeat (first|refine yG (yN ?_)|refine yG (yE rfl rfl rfl (RdL.blk h rfl) ?_)|refine yG (yU rfl rfl rfl rfl ?_)))
    refine VA.go (VA.callR (fun Fr w hF hs hS => Ch.head_spec Fr w (hm.of hF hs) (by omega)) rfl rfl (by (try refine Pd.st ?_);(repeat (first|exact Pd.nil|exact Pd.fnil|refine Pd.inner ?_|refine Pd.skip (by decide +kernel) ?_|refine zf (RdL.blk (RdL.blk h rfl) rfl) ?_|refine zf (RdL.blk (RdL.blkA (ds := R.ch.cells x.a x.c) h rfl) rfl) ?_|refine zf ((RdL.blk h rfl)) ?_|refine zf ((RdL.blkA (ds := R.ch.cells x.a x.c) h rfl)) ?_|refine zc (RdL.blk (RdL.blk h rfl) rfl) ?_|refine zc (RdL.blk (RdL.blkA (ds := R.ch.cells x.a x.c) h rfl) rfl) ?_|refine zc ((RdL.blk h rfl)) ?_|refine zc ((RdL.blkA (ds := R.ch.cells x.a x.c) h rfl)) ?_))) ?_)
    (repeat (first|refine yG (yN ?_)|refine yG (yD 0 rfl rfl rfl rfl rfl ?_)|refine yG (yU rfl rfl rfl rfl ?_)))
    exact VC.ret (Ret.bool 2 rfl rfl (by rw [RepM.headB, hi]; rfl) Ent.refl ⟨rfl, rfl⟩)
  | false =>
    refine VA.go (VA.yes 5 false rfl rfl ?_)
    (repeat (first|refine yG (yN ?_)|refine yG (yE rfl rfl rfl (RdL.blk h rfl) ?_)|refine yG (yU rfl rfl rfl rfl ?_)))
    refine VA.go (VA.offO rfl rfl ?_)
    (repeat (first|refine yG (yN ?_)|refine yG (yD 0 rfl rfl rfl rfl rfl ?_)|refine yG (yU rfl rfl rfl rfl ?_)))
    exact VC.ret (Ret.bool 2 rfl rfl (by rw [RepM.headB, hi]; rfl) Ent.refl ⟨rfl, rfl⟩)
set_option maxRecDepth 100000 in
theorem tail_spec (Fr : Nat → Prop) (w : World) (h : Blk Fr w p (repCs R x)) (hm : RwIn memC 2 Fr w x.a R.ch.ms) (hc : ChS R.ch) : Tri Tryz.prog 134 [.pointer (some ⟨p, 0, none⟩)] Fr w [] (fun v L => v = .bool R.tailB ∧ L = []) := by
  have hcl := hc.len
  refine Tri.of 17 Tryz.func134 rfl (by kernel_rfl) tabOk rfl rfl ?_
  refine VC.seq (VC.region (VO.go (VO.nil ?_)))
  refine VC.seq (VC.draw (.take 0 (.only 1 (ts 2 5 (ts 8 4 (.only 7 (ts 12 3 .nil)))))) (by kernel_rfl) (by decide +kernel) ?_)
  refine VA.go (VA.callR (fun Fr w hF hs hS => in_spec Fr w (h.of hF hs)) rfl rfl (by (try refine Pd.st ?_);(repeat (first|exact Pd.nil|exact Pd.fnil|refine Pd.inner ?_|refine Pd.skip (by decide +kernel) ?_))) ?_)
  (repeat (first|refine yG (yN ?_)|refine yG (yD 0 rfl rfl rfl rfl rfl ?_)))
  cases hi : R.inB with
  | true =>
    refine VA.go (VA.yes 5 true rfl rfl ?_)
    (repeat (first|refine yG (yN ?_)|refine yG (yE rfl rfl rfl (RdL.blk h rfl) ?_)|refine yG (yU rfl rfl rfl rfl ?_)))
    refine VA.go (VA.load rfl rfl rfl (RdL.blkA (ds := R.ch.cells x.a x.c) h rfl) ?_)
    (repeat (first|refine yG (yN ?_)|refine yG (yE rfl rfl rfl (RdL.blk h rfl) ?_)|refine yG (yU rfl rfl rfl rfl ?_)))
    refine VA.go (VA.callR (fun Fr w hF hs hS => Ch.tail_spec Fr w (hm.of hF hs) (by omega)) rfl rfl (by (try refine Pd.st ?_);(repeat (first|exact Pd.nil|exact Pd.fnil|refine Pd.inner ?_|refine Pd.skip (by decide +kernel) ?_|refine zf (RdL.blk (RdL.blk h rfl) rfl) ?_|refine zf (RdL.blk (RdL.blkA (ds := R.ch.cells x.a x.c) h rfl) rfl) ?_|refine zf ((RdL.blk h rfl)) ?_|refine zf ((RdL.blkA (ds := R.ch.cells x.a x.c) h rfl)) ?_|refine zc (RdL.blk (RdL.blk h rfl) rfl) ?_|refine zc (RdL.blk (RdL.blkA (ds := R.ch.cells x.a x.c) h rfl) rfl) ?_|refine zc ((RdL.blk h rfl)) ?_|refine zc ((RdL.blkA (ds := R.ch.cells x.a x.c) h rfl)) ?_))) ?_)
    (repeat (first|refine yG (yN ?_)|refine yG (yD 0 rfl rfl rfl rfl rfl ?_)|refine yG (yU rfl rfl rfl rfl ?_)))
    exact VC.ret (Ret.bool 2 rfl rfl (by rw [RepM.tailB, hi]; rfl) Ent.refl ⟨rfl, rfl⟩)
  | false =>
    refine VA.go (VA.yes 5 false rfl rfl ?_)
    (repeat (first|refine yG (yN ?_)|refine yG (yE rfl rfl rfl (RdL.blk h rfl) ?_)|refine yG (yU rfl rfl rfl rfl ?_)))
    refine VA.go (VA.offO rfl rfl ?_)
    (repeat (first|refine yG (yN ?_)|refine yG (yD 0 rfl rfl rfl rfl rfl ?_)|refine yG (yU rfl rfl rfl rfl ?_)))
    exact VC.ret (Ret.bool 2 rfl rfl (by rw [RepM.tailB, hi]; rfl) Ent.refl ⟨rfl, rfl⟩)
set_option maxRecDepth 100000 in
theorem drains_spec (Fr : Nat → Prop) (w : World) (h : Blk Fr w p (repCs R x)) : Tri Tryz.prog 83 [.pointer (some ⟨p, 0, none⟩)] Fr w [] (fun v L => v = .bool R.drainsB ∧ L = []) := by
  refine Tri.of 17 Tryz.func83 rfl (by kernel_rfl) tabOk rfl rfl ?_
  refine VC.seq (VC.region (VO.go (VO.nil ?_)))
  refine VC.seq (VC.draw (.take 0 (.only 1 (ts 2 13 .nil))) (by kernel_rfl) (by decide +kernel) ?_)
  refine VA.go (VA.callR (fun Fr w hF hs hS => in_spec Fr w (h.of hF hs)) rfl rfl (by (try refine Pd.st ?_);(repeat (first|exact Pd.nil|exact Pd.fnil|refine Pd.inner ?_|refine Pd.skip (by decide +kernel) ?_))) ?_)
  (repeat (first|refine yG (yN ?_)|refine yG (yD 0 rfl rfl rfl rfl rfl ?_)))
  cases hi : R.inB with
  | true =>
    refine VA.go (VA.yes 5 true rfl rfl ?_)
    (repeat (first|refine yG (yN ?_)|refine yG (yE rfl rfl rfl (RdL.blk h rfl) ?_)|refine yG (yU rfl rfl rfl rfl ?_)))
    exact VC.ret (Ret.bool 2 rfl rfl (by rw [RepM.drainsB, hi]; rfl) Ent.refl ⟨rfl, rfl⟩)
  | false =>
    refine VA.go (VA.yes 5 false rfl rfl ?_)
    (repeat (first|refine yG (yN ?_)|refine yG (yE rfl rfl rfl (RdL.blk h rfl) ?_)|refine yG (yU rfl rfl rfl rfl ?_)))
    exact VC.ret (Ret.bool 2 rfl rfl (by rw [RepM.drainsB, hi]; rfl) Ent.refl ⟨rfl, rfl⟩)
end
end Go.Proofs.YtbbnmgakmcppdaaGreat.Rep
namespace Go.Proofs.YtbbnmgakmcppdaaGreat.Rep
open Go Go.Proofs.YtbbnmgakmcppdaaGreat.Vg Go.Proofs.YtbbnmgakmcppdaaGreat.T Go.Proofs.YtbbnmgakmcppdaaGreat.Api Go.Proofs.YtbbnmgakmcppdaaGreat.Kv Go.Proofs.YtbbnmgakmcppdaaGreat.Ch Go.Proofs.YtbbnmgakmcppdaaGreat.Lg Go.Proofs.YtbbnmgakmcppdaaGreat.Rd Go.Proofs.YtbbnmgakmcppdaaGreat.Win Go.Proofs.YtbbnmgakmcppdaaGreat.Adm
set_option linter.unusedSimpArgs false
set_option linter.unusedVariables false
attribute [local irreducible] VO VC VA

def replyF (client seq try_ : Int) (r : ResM) : FrameM := { FrameM.zero with kind := 2, client := client, seq := seq, try_ := try_, res := r }
def refuseF (epoch : Int) (f : FrameM) (reason : Int) : FrameM := { FrameM.zero with kind := 3, epoch := epoch, client := f.client, seq := f.seq, try_ := f.try_, reason := reason }
def ackF (epoch i g h : Int) : FrameM := { FrameM.zero with kind := 5, epoch := epoch, index := i, grant := g, have_ := h }
def baseF (epoch i : Int) : FrameM := { FrameM.zero with kind := 6, epoch := epoch, index := i }
def aliveF (epoch i : Int) : FrameM := { FrameM.zero with kind := 11, epoch := epoch, index := i }
section
variable {p : Nat} {R : RepM} {x : RepS} {b : Nat} {S : List SndM}
set_option maxRecDepth 100000 in
theorem reply_spec (Fr : Nat → Prop) (w : World) (hS : S.length ≤ 1000000) (client seq try_ : Int) (hc0 : 0 ≤ client) (hc1 : client ≤ 1000000) (r : ResM) : Tri Tryz.prog 70 [.int .i64 client, .int .i64 seq, .int .i64 try_, .agg (resC r).toArray, sendF b] Fr w [outH b S]
    (fun v L => v = .tuple #[] ∧ L = [outH b (S ++ [(32 + client, replyF client seq try_ r)])]) := by
  refine Tri.of 19 Tryz.func70 rfl (by kernel_rfl) tabOk rfl rfl ?_
  refine VC.seq (VC.region (VO.go (VO.boxA (vs := resC r) rfl fun rb => ?_)))
  (repeat (first|refine zS ?_|refine zR ?_|refine zB ?_|refine zL ?_|refine zC ?_|refine zG (zN ?_)|refine zG (zD 0 rfl rfl rfl rfl ?_)))
  refine VO.go (VO.add rfl rfl (by omega) (by omega) ?_)
  refine VO.go (VO.ldA 0 (resC r) rfl rfl rfl rfl ?_)
  refine VO.go (VO.light (light_build (pv := [(0, .int .i64 2), (2, .int .i64 client), (3, .int .i64 seq), (4, .int .i64 try_), (8, .agg (resC r).toArray)]) (fgC (replyF client seq try_ r) mem0) rfl rfl rfl (by kernel_rfl) rfl) ?_)
  refine VO.go (VO.callFAt 1 rfl rfl (fun Fr w hF hs _ => add_spec Fr w b S hS (32 + client) (replyF client seq try_ r)) rfl (ψ := fun v H => v = .tuple #[] ∧ H = outH b (S ++ [(32 + client, replyF client seq try_ r)])) (fun v L h => ⟨_, h.2, h.1, rfl⟩) ?_)
  rintro _ _ ⟨rfl, rfl⟩
  (repeat (first|refine zS ?_|refine zR ?_|refine zB ?_|refine zL ?_|refine zC ?_|refine zG (zN ?_)|refine zG (zD 0 rfl rfl rfl rfl ?_)))
  exact Ret.void rfl (Imp.pick 1 rfl Imp.nil).ent ⟨rfl, rfl⟩
set_option maxRecDepth 100000 in
theorem refuse_spec (Fr : Nat → Prop) (w : World) (h : Blk Fr w p (repCs R x)) (hS : S.length ≤ 1000000) (f : FrameM) (m : MemG) (hc0 : 0 ≤ f.client) (hc1 : f.client ≤ 1000000) (reason : Int) : Tri Tryz.prog 81 [.pointer (some ⟨p, 0, none⟩), .agg (fgC f m).toArray, .int .i64 reason, sendF b] Fr w [outH b S]
    (fun v L => v = .tuple #[] ∧ L = [outH b (S ++ [(32 + f.client, refuseF R.ch.epoch f reason)])]) := by
  refine Tri.of 26 Tryz.func81 rfl (by kernel_rfl) tabOk rfl rfl ?_
  refine VC.seq (VC.region (VO.go (VO.boxA (vs := fgC f m) rfl fun fb => VO.go (VO.nil ?_))))
  refine VC.draw (ts 0 17 (.only 17 .nil)) (by kernel_rfl) (by decide +kernel) ?_
  (repeat (first|refine yG (yN ?_)|refine yG (yD 0 rfl rfl rfl rfl rfl ?_)|refine yG (yE rfl rfl rfl (RdL.blk h rfl) ?_)))
  refine VA.go (VA.add rfl rfl rfl (by omega) (by omega) ?_)
  (repeat (first|refine yG (yN ?_)|refine yG (yD 0 rfl rfl rfl rfl rfl ?_)|refine yG (yE rfl rfl rfl (RdL.blk h rfl) ?_)))
  refine VA.go (VA.light rfl (light_build (pv := [(0, .int .i64 3), (1, .int .i64 R.ch.epoch), (2, .int .i64 f.client), (3, .int .i64 f.seq), (4, .int .i64 f.try_), (9, .int .i64 reason)]) (fgC (refuseF R.ch.epoch f reason) mem0) rfl rfl rfl (by kernel_rfl) rfl) ?_)
  refine VA.go (VA.callFAt 1 rfl rfl (fun Fr w hF hs _ => add_spec Fr w b S hS (32 + f.client) (refuseF R.ch.epoch f reason)) rfl rfl (ψ := fun v H => v = .tuple #[] ∧ H = outH b (S ++ [(32 + f.client, refuseF R.ch.epoch f reason)])) (fun v L h => ⟨_, h.2, h.1, rfl⟩) ?_ ?_)
  · rintro _ _ ⟨rfl, rfl⟩
    exact (by (try refine Pd.st ?_);(repeat (first|exact Pd.nil|exact Pd.fnil|refine Pd.inner ?_|refine Pd.skip (by decide +kernel) ?_|refine zf (zo 0 rfl rfl) ?_|refine zf (zm 0 rfl rfl) ?_|refine zf (RdL.blk (RdL.blk h rfl) rfl) ?_|refine zf ((RdL.blk h rfl)) ?_|refine zc (zo 0 rfl rfl) ?_|refine zc (zm 0 rfl rfl) ?_|refine zc (RdL.blk (RdL.blk h rfl) rfl) ?_|refine zc ((RdL.blk h rfl)) ?_)))
  rintro _ _ ⟨rfl, rfl⟩
  (repeat (first|refine yG (yN ?_)|refine yG (yD 0 rfl rfl rfl rfl rfl ?_)))
  exact Ret.void rfl (Imp.pick 1 rfl Imp.nil).ent ⟨rfl, rfl⟩
def RepM.greetM (R : RepM) : List SndM := if R.prevM < 0 then [] else [(R.prevM, ackF R.ch.epoch R.win.done (if R.drainsB then R.win.last else R.win.done + R.win.cap) R.win.last)]
set_option maxRecDepth 100000 in
theorem greet_spec (Fr : Nat → Prop) (w : World) (h : RepIn Fr w p R x) (hc : ChS R.ch) (hw : R.win.Ok) (hS : S.length ≤ 1000000) : Tri Tryz.prog 100 [.pointer (some ⟨p, 0, none⟩), sendF b] Fr w [outH b S] (fun v L => v = .tuple #[] ∧ L = [outH b (S ++ R.greetM)]) := by
  have hb := h.blk
  have w0 := hw.cap0
  refine Tri.of 42 Tryz.func100 rfl (by kernel_rfl) tabOk rfl rfl ?_
  (repeat (first|refine zS ?_|refine zR ?_|refine zB ?_|refine zL ?_|refine zC ?_|refine zG (zN ?_)|refine zG (zD 0 rfl rfl rfl rfl ?_)))
  refine VO.go (VO.callV' (fun Fr w hF hs _ => Rep.prev_spec Fr w (h.of hF hs).blk (h.of hF hs).mem hc) rfl ?_)
  (repeat (first|refine zS ?_|refine zR ?_|refine zB ?_|refine zL ?_|refine zC ?_|refine zG (zN ?_)|refine zG (zD 0 rfl rfl rfl rfl ?_)))
  refine VC.condP rfl (fun h1 => ?_) (fun h1 => VC.skip ?_)
  · exact VC.ret (Ret.void rfl Ent.refl ⟨rfl, by rw [RepM.greetM, if_pos h1, List.append_nil]⟩)
  (repeat (first|refine zS ?_|refine zR ?_|refine zB ?_|refine zL ?_|refine zC ?_|refine zG (zN ?_)|refine zG (zE rfl rfl (RdL.blk hb rfl) ?_)))
  refine VO.go (VO.callV' (fun Fr w hF hs _ => Win.offer_spec Fr w (h.of hF hs).win hw) rfl ?_)
  refine VO.go (VO.nil (VC.seq ?_))
  refine VC.meetS (σ := Unit) (fun _ => [(0, .pointer (some ⟨p, 0, none⟩)), (1, sendF b), (4, .int .i64 R.prevM), (5, .int .i64 (if R.drainsB then R.win.last else R.win.done + R.win.cap))]) (fun _ => [outH b S]) (fun _ => True) ?_ ?_
  · (repeat (first|refine zS ?_|refine zR ?_|refine zB ?_|refine zL ?_|refine zC ?_|refine zG (zN ?_)|refine zG (zD 0 rfl rfl rfl rfl ?_)))
    refine VO.go (VO.callV' (fun Fr w hF hs _ => drains_spec Fr w (h.of hF hs).blk) rfl ?_)
    (repeat (first|refine zS ?_|refine zR ?_|refine zB ?_|refine zL ?_|refine zC ?_|refine zG (zN ?_)|refine zG (zD 0 rfl rfl rfl rfl ?_)))
    refine VC.cond rfl (fun hd => ?_) (fun hd => VC.skip ?_)
    · (repeat (first|refine zS ?_|refine zR ?_|refine zB ?_|refine zL ?_|refine zC ?_|refine zG (zN ?_)|refine zG (zE rfl rfl (RdL.blk hb rfl) ?_)))
      refine VO.go (VO.callV' (fun Fr w hF hs _ => Win.last_spec Fr w (h.of hF hs).win w0) rfl ?_)
      (repeat (first|refine zS ?_|refine zR ?_|refine zB ?_|refine zL ?_|refine zC ?_|refine zG (zN ?_)|refine zG (zD 0 rfl rfl rfl rfl ?_)))
      exact ⟨(), trivial, Sub.cons rfl (Sub.cons rfl (Sub.cons rfl (Sub.int rfl (by rw [hd]; rfl) (Sub.nil _)))), Ent.refl⟩
    · exact ⟨(), trivial, Sub.cons rfl (Sub.cons rfl (Sub.cons rfl (Sub.int rfl (by rw [hd]; rfl) (Sub.nil _)))), Ent.refl⟩
  rintro _ -
  refine VC.draw (ts 0 11 (ts 12 5 (.only 11 (.only 17 (.take 18 (.only 19 .nil)))))) (by kernel_rfl) (by decide +kernel) ?_
  (repeat (first|refine yG (yN ?_)|refine yG (yE rfl rfl rfl (RdL.blk hb rfl) ?_)))
  refine VA.go (VA.callR (fun Fr w hF hs hS => Win.done_spec Fr w (h.of hF hs).win w0) rfl rfl (by (try refine Pd.st ?_);(repeat (first|exact Pd.nil|exact Pd.fnil|refine Pd.inner ?_|refine Pd.skip (by decide +kernel) ?_|refine zf (RdL.blk (RdL.blk hb rfl) rfl) ?_|refine zf ((RdL.blk hb rfl)) ?_|refine zc (RdL.blk (RdL.blk hb rfl) rfl) ?_|refine zc ((RdL.blk hb rfl)) ?_))) ?_)
  refine VA.go (VA.callR (fun Fr w hF hs hS => Win.last_spec Fr w (h.of hF hs).win w0) rfl rfl (by (try refine Pd.st ?_);(repeat (first|exact Pd.nil|exact Pd.fnil|refine Pd.inner ?_|refine Pd.skip (by decide +kernel) ?_|refine zf (RdL.blk (RdL.blk hb rfl) rfl) ?_|refine zf ((RdL.blk hb rfl)) ?_|refine zc (RdL.blk (RdL.blk hb rfl) rfl) ?_|refine zc ((RdL.blk hb rfl)) ?_))) ?_)
  refine VA.go (VA.light rfl (light_build (pv := [(0, .int .i64 5), (1, .int .i64 R.ch.epoch), (12, .int .i64 R.win.done), (13, .int .i64 (if R.drainsB then R.win.last else R.win.done + R.win.cap)), (14, .int .i64 R.win.last)]) (fgC (ackF R.ch.epoch R.win.done (if R.drainsB then R.win.last else R.win.done + R.win.cap) R.win.last) mem0) rfl rfl rfl (by kernel_rfl) rfl) ?_)
  refine VA.go (VA.callFAt 0 rfl rfl (fun Fr w hF hs _ => add_spec Fr w b S hS R.prevM (ackF R.ch.epoch R.win.done (if R.drainsB then R.win.last else R.win.done + R.win.cap) R.win.last)) rfl rfl (ψ := fun v H => v = .tuple #[] ∧ H = outH b (S ++ [(R.prevM, ackF R.ch.epoch R.win.done (if R.drainsB then R.win.last else R.win.done + R.win.cap) R.win.last)])) (fun v L h => ⟨_, h.2, h.1, rfl⟩) ?_ ?_)
  · rintro _ _ ⟨rfl, rfl⟩
    exact (by (try refine Pd.st ?_);(repeat (first|exact Pd.nil|exact Pd.fnil|refine Pd.inner ?_|refine Pd.skip (by decide +kernel) ?_|refine zf (RdL.blk (RdL.blk hb rfl) rfl) ?_|refine zf ((RdL.blk hb rfl)) ?_|refine zc (RdL.blk (RdL.blk hb rfl) rfl) ?_|refine zc ((RdL.blk hb rfl)) ?_)))
  rintro _ _ ⟨rfl, rfl⟩
  (repeat (first|refine yG (yN ?_)|refine yG (yD 0 rfl rfl rfl rfl rfl ?_)))
  exact Ret.void rfl Ent.refl ⟨rfl, by rw [RepM.greetM, if_neg h1]; rfl⟩
def RepM.baseM (R : RepM) : List SndM := if R.whole = true ∧ 0 ≤ R.nextM then [(R.nextM, baseF R.ch.epoch R.start)] else []
set_option maxRecDepth 100000 in
theorem tellBase_spec (Fr : Nat → Prop) (w : World) (h : RepIn Fr w p R x) (hc : ChS R.ch) (hS : S.length ≤ 1000000) : Tri Tryz.prog 101 [.pointer (some ⟨p, 0, none⟩), sendF b] Fr w [outH b S] (fun v L => v = .tuple #[] ∧ L = [outH b (S ++ R.baseM)]) := by
  have hb := h.blk
  refine Tri.of 28 Tryz.func101 rfl (by kernel_rfl) tabOk rfl rfl ?_
  (repeat (first|refine zS ?_|refine zR ?_|refine zB ?_|refine zL ?_|refine zC ?_|refine zG (zN ?_)|refine zG (zD 0 rfl rfl rfl rfl ?_)))
  refine VO.go (VO.callV' (fun Fr w hF hs _ => Rep.next_spec Fr w (h.of hF hs).blk (h.of hF hs).mem hc) rfl ?_)
  (repeat (first|refine zS ?_|refine zR ?_|refine zB ?_|refine zL ?_|refine zC ?_|refine zG (zN ?_)|refine zG (zE rfl rfl (RdL.blk hb rfl) ?_)))
  cases hwh : R.whole with
  | false =>
    refine VO.go (VO.yes 11 false rfl rfl ?_)
    (repeat (first|refine zS ?_|refine zR ?_|refine zB ?_|refine zL ?_|refine zC ?_|refine zG (zN ?_)|refine zG (zE rfl rfl (RdL.blk hb rfl) ?_)|refine zG (zU rfl rfl rfl ?_)))
    refine VC.condF rfl (VC.skip ?_)
    exact Ret.void rfl Ent.refl ⟨rfl, by rw [RepM.baseM, if_neg (by rw [hwh]; simp), List.append_nil]⟩
  | true =>
    refine VO.go (VO.yes 11 true rfl rfl ?_)
    (repeat (first|refine zS ?_|refine zR ?_|refine zB ?_|refine zL ?_|refine zC ?_|refine zG (zN ?_)|refine zG (zE rfl rfl (RdL.blk hb rfl) ?_)|refine zG (zU rfl rfl rfl ?_)))
    refine VC.condP rfl (fun h1 => ?_) (fun h1 => VC.skip ?_)
    · refine VC.draw (ts 0 12 (.only 12 .nil)) (by kernel_rfl) (by decide +kernel) ?_
      (repeat (first|refine yG (yN ?_)|refine yG (yE rfl rfl rfl (RdL.blk hb rfl) ?_)))
      refine VA.go (VA.light rfl (light_build (pv := [(0, .int .i64 6), (1, .int .i64 R.ch.epoch), (12, .int .i64 R.start)]) (fgC (baseF R.ch.epoch R.start) mem0) rfl rfl rfl (by kernel_rfl) rfl) ?_)
      refine VA.go (VA.callFAt 0 rfl rfl (fun Fr w hF hs _ => add_spec Fr w b S hS R.nextM (baseF R.ch.epoch R.start)) rfl rfl (ψ := fun v H => v = .tuple #[] ∧ H = outH b (S ++ [(R.nextM, baseF R.ch.epoch R.start)])) (fun v L h => ⟨_, h.2, h.1, rfl⟩) ?_ ?_)
      · rintro _ _ ⟨rfl, rfl⟩
        exact (by (try refine Pd.st ?_);(repeat (first|exact Pd.nil|exact Pd.fnil|refine Pd.inner ?_|refine Pd.skip (by decide +kernel) ?_|refine zf (RdL.blk (RdL.blk hb rfl) rfl) ?_|refine zf ((RdL.blk hb rfl)) ?_|refine zc (RdL.blk (RdL.blk hb rfl) rfl) ?_|refine zc ((RdL.blk hb rfl)) ?_)))
      rintro _ _ ⟨rfl, rfl⟩
      (repeat (first|refine yG (yN ?_)|refine yG (yD 0 rfl rfl rfl rfl rfl ?_)))
      exact Ret.void rfl Ent.refl ⟨rfl, by rw [RepM.baseM, if_pos ⟨hwh, h1⟩]; rfl⟩
    · exact Ret.void rfl Ent.refl ⟨rfl, by rw [RepM.baseM, if_neg (fun h => h1 h.2), List.append_nil]⟩
def RepM.masterM (R : RepM) : List SndM := [(16, aliveF R.ch.epoch (if R.whole then 1 else 0))]
set_option maxRecDepth 100000 in
theorem tellMaster_spec (Fr : Nat → Prop) (w : World) (hb : Blk Fr w p (repCs R x)) (hS : S.length ≤ 1000000) : Tri Tryz.prog 99 [.pointer (some ⟨p, 0, none⟩), sendF b] Fr w [outH b S] (fun v L => v = .tuple #[] ∧ L = [outH b (S ++ R.masterM)]) := by
  refine Tri.of 19 Tryz.func99 rfl (by kernel_rfl) tabOk rfl rfl ?_
  (repeat (first|refine zS ?_|refine zR ?_|refine zB ?_|refine zL ?_|refine zC ?_|refine zG (zN ?_)|refine zG (zE rfl rfl (RdL.blk hb rfl) ?_)))
  refine VO.go (VO.light (light_build (pv := [(0, .int .i64 11), (1, .int .i64 R.ch.epoch)]) (fgC (aliveF R.ch.epoch 0) mem0) rfl rfl rfl (by kernel_rfl) rfl) ?_)
  refine VO.go (VO.alloc rfl fun fb => ?_)
  refine VO.go (VO.stA (vs := fgC (aliveF R.ch.epoch 0) mem0) 0 rfl rfl rfl rfl (Nat.le_refl _) rfl rfl rfl ?_)
  refine VO.go (VO.nil (VC.seq ?_))
  refine VC.meetS (σ := Unit) (fun _ => [(1, sendF b), (4, .pointer (some ⟨fb, 0, none⟩))]) (fun _ => [pt fb (fgC (aliveF R.ch.epoch (if R.whole then 1 else 0)) mem0) frT, outH b S]) (fun _ => True) ?_ ?_
  · (repeat (first|refine zS ?_|refine zR ?_|refine zB ?_|refine zL ?_|refine zC ?_|refine zG (zN ?_)|refine zG (zE rfl rfl (RdL.blk hb rfl) ?_)))
    refine VC.cond rfl (fun hd => ?_) (fun hd => VC.skip ?_)
    · (repeat (first|refine zS ?_|refine zR ?_|refine zB ?_|refine zL ?_|refine zC ?_|refine zG (zN ?_)|refine zG (zD 0 rfl rfl rfl rfl ?_)))
      refine VO.go (VO.st 0 (cs' := fgC (aliveF R.ch.epoch 1) mem0) rfl rfl rfl rfl (Nat.le_of_ble_eq_true rfl) rfl rfl ?_)
      (repeat (first|refine zS ?_|refine zR ?_|refine zB ?_|refine zL ?_|refine zC ?_|refine zG (zN ?_)|refine zG (zD 0 rfl rfl rfl rfl ?_)))
      exact ⟨(), trivial, Sub.cons rfl (Sub.cons rfl (Sub.nil _)), by rw [hd]; exact Ent.refl⟩
    · exact ⟨(), trivial, Sub.cons rfl (Sub.cons rfl (Sub.nil _)), by rw [hd]; exact Ent.refl⟩
  rintro _ -
  (repeat (first|refine zS ?_|refine zR ?_|refine zB ?_|refine zL ?_|refine zC ?_|refine zG (zN ?_)|refine zG (zD 0 rfl rfl rfl rfl ?_)))
  refine VO.go (VO.ldA 0 (fgC (aliveF R.ch.epoch (if R.whole then 1 else 0)) mem0) rfl rfl rfl rfl ?_)
  refine VO.go (VO.callFAt 1 rfl rfl (fun Fr w hF hs _ => add_spec Fr w b S hS 16 (aliveF R.ch.epoch (if R.whole then 1 else 0))) rfl (ψ := fun v H => v = .tuple #[] ∧ H = outH b (S ++ R.masterM)) (fun v L h => ⟨_, h.2, h.1, rfl⟩) ?_)
  rintro _ _ ⟨rfl, rfl⟩
  (repeat (first|refine zS ?_|refine zR ?_|refine zB ?_|refine zL ?_|refine zC ?_|refine zG (zN ?_)|refine zG (zD 0 rfl rfl rfl rfl ?_)))
  exact Ret.void rfl (Imp.pick 1 rfl Imp.nil).ent ⟨rfl, rfl⟩
end
end Go.Proofs.YtbbnmgakmcppdaaGreat.Rep
namespace Go.Proofs.YtbbnmgakmcppdaaGreat.Rep
open Go Go.Proofs.YtbbnmgakmcppdaaGreat.Vg Go.Proofs.YtbbnmgakmcppdaaGreat.T Go.Proofs.YtbbnmgakmcppdaaGreat.Api Go.Proofs.YtbbnmgakmcppdaaGreat.Kv Go.Proofs.YtbbnmgakmcppdaaGreat.Ch Go.Proofs.YtbbnmgakmcppdaaGreat.Lg Go.Proofs.YtbbnmgakmcppdaaGreat.Rd Go.Proofs.YtbbnmgakmcppdaaGreat.Win Go.Proofs.YtbbnmgakmcppdaaGreat.Adm
set_option linter.unusedSimpArgs false
set_option linter.unusedVariables false
attribute [local irreducible] VO VC VA

structure RepM.Ok (R : RepM) : Prop where
  ch : ChS R.ch
  win : R.win.Ok
  last : R.win.last = R.log.length
  logc : ∀ e ∈ R.log, 0 ≤ e.client ∧ e.client < 6
  logi : ∀ e ∈ R.log, 1 ≤ e.index ∧ e.index ≤ R.log.length
  rc0 : 1 ≤ R.rds.cap
  rc1 : R.rds.cap ≤ 16
  rl : (R.rds.l.length : Int) ≤ R.rds.cap
  rn0 : 0 ≤ R.rds.last
  rn1 : R.rds.last ≤ 100000000
  rcl : ∀ y ∈ R.rds.l, 0 ≤ y.f.client ∧ y.f.client ≤ 1000
  calls : R.adm.Calls
  wf : R.adm.Wf
theorem lastOf_mem (es : List EntryM) (c : Int) : lastOf es c = (0, 0) ∨ ∃ e ∈ es, lastOf es c = (e.seq, e.index) ∧ e.client = c := by
  have : ∀ (es : List EntryM) (p : Int × Int), es.foldl (lastStep c) p = p ∨ ∃ e ∈ es, es.foldl (lastStep c) p = (e.seq, e.index) ∧ e.client = c := by
    intro es
    induction es with
    | nil => intro p; exact .inl rfl
    | cons e es ih =>
      intro p
      rw [List.foldl_cons]
      rcases ih (lastStep c p e) with h | ⟨d, hd, h, h2⟩
      · rw [h]
        unfold lastStep
        split
        · exact .inr ⟨e, by simp, rfl, by assumption⟩
        · exact .inl rfl
      · exact .inr ⟨d, by simp [hd], h, h2⟩
  exact this es (0, 0)
theorem RepM.Ok.lasti {R : RepM} (h : R.Ok) (c : Int) : 0 ≤ (lastR R.log c).2 ∧ (lastR R.log c).2 ≤ R.log.length := by
  unfold lastR
  split
  · rcases lastOf_mem R.log c with h1 | ⟨e, he, h1, _⟩
    · rw [h1]; exact ⟨Int.le_refl _, by simp⟩
    · rw [h1]; have := h.logi e he; exact ⟨by show 0 ≤ e.index; omega, this.2⟩
  · exact ⟨Int.le_refl _, by simp⟩
/-- The pieces of a node, and what it sends. -/
def repO (p : Nat) (R : RepM) (x : RepS) (b : Nat) (S : List SndM) : List HP := [pt p (repCs R x) repT, slH memT 2 x.a R.ch.ms.length x.c (flat memC R.ch.ms), logH x.lp R.log, winH x.wp R.win, admH x.ap R.adm, rdsH x.rp R.rds, outH b S]
theorem repO_shut {p : Nat} {R : RepM} {x : RepS} {b : Nat} {S : List SndM} : Imp (repO p R x b S) [repH p R, outH b S] := Imp.rep x (Imp.pick 0 rfl (Imp.pick 0 rfl (Imp.pick 0 rfl (Imp.pick 0 rfl (Imp.pick 0 rfl (Imp.pick 0 rfl (Imp.pick 0 rfl Imp.nil)))))))
def replyOf (R : RepM) (i : Int) : SndM := (32 + ((atI R.log i).getD entZ).client, replyF ((atI R.log i).getD entZ).client ((atI R.log i).getD entZ).seq 0 ((atI (logRun R.log).2 i).getD resZ))
def replies (R : RepM) (k : Nat) : List SndM := (List.range k).map fun j => replyOf R (R.win.done + 1 + (j : Nat))
def RepM.finishM (R : RepM) : List SndM := if R.tailB then replies R (R.win.last - R.win.done).toNat else []
def RepM.finishR (R : RepM) : RepM := if R.tailB then { R with win := R.win.ack R.win.last } else R
section
variable {p : Nat} {R : RepM} {b : Nat} {S : List SndM}
set_option maxRecDepth 100000 in
set_option maxHeartbeats 2000000 in
theorem finish_spec (Fr : Nat → Prop) (w : World) (ok : R.Ok) (hS : S.length ≤ 900000) : Tri Tryz.prog 143 [.pointer (some ⟨p, 0, none⟩), sendF b] Fr w [repH p R, outH b S] (fun v L => v = .tuple #[] ∧ L = [repH p R.finishR, outH b (S ++ R.finishM)]) := by
  have w0 := ok.win.cap0
  have d0 := ok.win.done0; have d1 := ok.win.done1; have d2 := ok.win.last1
  refine Tri.of 62 Tryz.func143 rfl (by kernel_rfl) tabOk rfl rfl ?_
  refine VC.opn 0 rfl (HOpn.rep p R) ?_
  rintro x -
  show VC _ _ _ (repO p R x b S) _
  unfold repO
  (repeat (first|refine zS ?_|refine zR ?_|refine zB ?_|refine zL ?_|refine zC ?_|refine zG (zN ?_)|refine zG (zD 0 rfl rfl rfl rfl ?_)))
  refine VO.go (VO.callV' (fun Fr w hF hs hS => tail_spec Fr w (hS.blk 0 rfl) (RwIn.slH memC_len (hS.at_ 1 rfl)) ok.ch) rfl ?_)
  (repeat (first|refine zS ?_|refine zR ?_|refine zB ?_|refine zL ?_|refine zC ?_|refine zG (zN ?_)|refine zG (zD 0 rfl rfl rfl rfl ?_)))
  refine VC.condN rfl (fun ht => ?_) (fun ht => VC.skip ?_)
  · exact VC.ret (Ret.void rfl repO_shut.ent ⟨rfl, by rw [RepM.finishR, RepM.finishM, ht]; simp⟩)
  (repeat (first|refine zS ?_|refine zR ?_|refine zB ?_|refine zL ?_|refine zC ?_|refine zG (zN ?_)|refine zG (zD 0 rfl rfl rfl rfl ?_)))
  refine VO.go (VO.callV' (fun Fr w hF hs hS => Win.done_spec Fr w (hS.blk 3 rfl) w0) rfl ?_)
  (repeat (first|refine zS ?_|refine zR ?_|refine zB ?_|refine zL ?_|refine zC ?_|refine zG (zN ?_)|refine zG (zD 0 rfl rfl rfl rfl ?_)))
  refine VO.go (VO.callV' (fun Fr w hF hs hS => Win.last_spec Fr w (hS.blk 3 rfl) w0) rfl ?_)
  (repeat (first|refine zS ?_|refine zR ?_|refine zB ?_|refine zL ?_|refine zC ?_|refine zG (zN ?_)|refine zG (zD 0 rfl rfl rfl rfl ?_)))
  refine VO.go (VO.callAt 3 rfl (fun Fr w hF hs hS => Win.ack_spec Fr w ok.win R.win.last) rfl (ψ := fun v H => v = .bool (R.win.ackB R.win.last) ∧ H = winH x.wp (R.win.ack R.win.last)) (fun v L h => ⟨_, h.2, h.1, rfl⟩) ?_)
  rintro _ _ ⟨rfl, rfl⟩
  (repeat (first|refine zS ?_|refine zR ?_|refine zB ?_|refine zL ?_|refine zC ?_|refine zG (zN ?_)|refine zG (zD 0 rfl rfl rfl rfl ?_)))
  refine VO.go (VO.add rfl rfl (by omega) (by omega) ?_)
  (repeat (first|refine zS ?_|refine zR ?_|refine zB ?_|refine zL ?_|refine zC ?_|refine zG (zN ?_)|refine zG (zD 0 rfl rfl rfl rfl ?_)))
  refine VC.loop (σ := Nat) (fun k => [(0, .pointer (some ⟨p, 0, none⟩)), (1, sendF b), (5, .int .i64 R.win.last), (6, .int .i64 (R.win.done + 1 + (k : Nat)))])
    (fun k => [pt p (repCs R x) repT, slH memT 2 x.a R.ch.ms.length x.c (flat memC R.ch.ms), logH x.lp R.log, winH x.wp (R.win.ack R.win.last), admH x.ap R.adm, rdsH x.rp R.rds, outH b (S ++ replies R k)])
    (fun k => k ≤ (R.win.last - R.win.done).toNat) (fun k => (R.win.last - R.win.done).toNat - k) 0
    (Nat.zero_le _) (Sub.cons rfl (Sub.cons rfl (Sub.cons rfl (Sub.int rfl (by simp) (Sub.nil _))))) (by rw [show replies R 0 = [] from rfl, List.append_nil]; exact Ent.refl) ?_
  intro k hk
  have hrl : (replies R k).length = k := by simp [replies]
  (repeat (first|refine zS ?_|refine zR ?_|refine zB ?_|refine zL ?_|refine zC ?_|refine zG (zN ?_)|refine zG (zD 0 rfl rfl rfl rfl ?_)))
  refine VC.condP rfl (fun h1 => VC.skip ?_) (fun h1 => VC.exit ?_)
  · obtain ⟨j, e, hj1, hj2, hj3, hj4⟩ := atI_some (l := R.log) (i := R.win.done + 1 + (k : Nat)) (by omega) (by have := ok.last; omega)
    have hcl := ok.logc e (List.mem_of_getElem? hj3)
    (repeat (first|refine zS ?_|refine zR ?_|refine zB ?_|refine zL ?_|refine zC ?_|refine zG (zN ?_)|refine zG (zD 0 rfl rfl rfl rfl ?_)))
    refine VO.go (VO.callV' (fun Fr w hF hs hS => Lg.at_spec Fr w (hS.at_ 2 rfl) (R.win.done + 1 + (k : Nat)) (by omega) (by omega)) rfl ?_)
    (repeat (first|refine zS ?_|refine zR ?_|refine zB ?_|refine zL ?_|refine zC ?_|refine zG (zN ?_)|refine zG (zD 0 rfl rfl rfl rfl ?_)))
    refine VO.go (VO.alloc rfl fun eb => ?_)
    refine VO.go (VO.stA (vs := entC ((atI R.log (R.win.done + 1 + (k : Nat))).getD entZ)) 0 rfl rfl rfl rfl (Nat.le_refl _) rfl rfl rfl ?_)
    (repeat (first|refine zS ?_|refine zR ?_|refine zB ?_|refine zL ?_|refine zC ?_|refine zG (zN ?_)|refine zG (zD 0 rfl rfl rfl rfl ?_)|refine zG (zD 1 rfl rfl rfl rfl ?_)))
    refine VO.go (VO.callV' (fun Fr w hF hs hS => Lg.result_spec Fr w (hS.at_ 3 rfl) (R.win.done + 1 + (k : Nat)) (by omega) (by omega)) rfl ?_)
    (repeat (first|refine zS ?_|refine zR ?_|refine zB ?_|refine zL ?_|refine zC ?_|refine zG (zN ?_)|refine zG (zD 0 rfl rfl rfl rfl ?_)|refine zG (zD 1 rfl rfl rfl rfl ?_)))
    refine VO.go (VO.alloc rfl fun rb => ?_)
    refine VO.go (VO.stA (vs := resC ((atI (logRun R.log).2 (R.win.done + 1 + (k : Nat))).getD resZ)) 0 rfl rfl rfl rfl (Nat.le_refl _) rfl rfl rfl ?_)
    (repeat (first|refine zS ?_|refine zR ?_|refine zB ?_|refine zL ?_|refine zC ?_|refine zG (zN ?_)|refine zG (zD 0 rfl rfl rfl rfl ?_)|refine zG (zD 1 rfl rfl rfl rfl ?_)))
    refine VO.go (VO.ldA 0 (resC ((atI (logRun R.log).2 (R.win.done + 1 + (k : Nat))).getD resZ)) rfl rfl rfl rfl ?_)
    refine VO.go (VO.callAt 8 rfl (fun Fr w hF hs hS => reply_spec Fr w (by rw [List.length_append, hrl]; omega) ((atI R.log (R.win.done + 1 + (k : Nat))).getD entZ).client ((atI R.log (R.win.done + 1 + (k : Nat))).getD entZ).seq 0 (by rw [hj4]; exact hcl.1) (by rw [hj4]; have := hcl.2; show e.client ≤ _; omega) ((atI (logRun R.log).2 (R.win.done + 1 + (k : Nat))).getD resZ)) rfl (ψ := fun v H => v = .tuple #[] ∧ H = outH b (S ++ replies R k ++ [replyOf R (R.win.done + 1 + (k : Nat))])) (fun v L h => ⟨_, h.2, h.1, rfl⟩) ?_)
    rintro _ _ ⟨rfl, rfl⟩
    (repeat (first|refine zS ?_|refine zR ?_|refine zB ?_|refine zL ?_|refine zC ?_|refine zG (zN ?_)|refine zG (zD 0 rfl rfl rfl rfl ?_)))
    refine VO.go (VO.add rfl rfl (by omega) (by omega) ?_)
    (repeat (first|refine zS ?_|refine zR ?_|refine zB ?_|refine zL ?_|refine zC ?_|refine zG (zN ?_)|refine zG (zD 0 rfl rfl rfl rfl ?_)))
    refine ⟨k + 1, by omega, by dsimp only; omega, Sub.cons rfl (Sub.cons rfl (Sub.cons rfl (Sub.int rfl (by push_cast; omega) (Sub.nil _)))), ?_⟩
    dsimp only
    rw [show replies R (k + 1) = replies R k ++ [replyOf R (R.win.done + 1 + (k : Nat))] by simp [replies, List.range_succ], ← List.append_assoc]
    exact (Imp.pick 2 rfl (Imp.pick 2 rfl (Imp.pick 2 rfl (Imp.pick 2 rfl (Imp.pick 2 rfl (Imp.pick 2 rfl (Imp.pick 2 rfl Imp.nil))))))).ent
  · obtain rfl : k = (R.win.last - R.win.done).toNat := by omega
    exact Ret.void rfl (Imp.rep (R := { R with win := R.win.ack R.win.last }) x (Imp.pick 0 rfl (Imp.pick 0 rfl (Imp.pick 0 rfl (Imp.pick 0 rfl (Imp.pick 0 rfl (Imp.pick 0 rfl (Imp.pick 0 rfl Imp.nil)))))))).ent ⟨rfl, by rw [RepM.finishR, RepM.finishM, ht]; simp⟩
def RepM.becomeB (R : RepM) : Bool := R.inB && (!R.whole && (decide (R.base ≠ -1) && decide (R.base ≤ R.win.last)))
def RepM.becomeR (R : RepM) : RepM := if R.becomeB then { R with whole := true, start := R.win.last } else R
def RepM.becomeM (R : RepM) : List SndM := if R.becomeB then R.becomeR.baseM else []
set_option maxRecDepth 100000 in
set_option maxHeartbeats 2000000 in
theorem become_spec (Fr : Nat → Prop) (w : World) (ok : R.Ok) (hS : S.length ≤ 900000) : Tri Tryz.prog 68 [.pointer (some ⟨p, 0, none⟩), sendF b] Fr w [repH p R, outH b S] (fun v L => v = .tuple #[] ∧ L = [repH p R.becomeR, outH b (S ++ R.becomeM)]) := by
  have w0 := ok.win.cap0
  refine Tri.of 46 Tryz.func68 rfl (by kernel_rfl) tabOk rfl rfl ?_
  refine VC.opn 0 rfl (HOpn.rep p R) ?_
  rintro x -
  show VC _ _ _ (repO p R x b S) _
  refine VC.seq (VC.seq ?_)
  have S3 : ∀ {E : Env} {t : Bool}, Vg.look E 31 = some (.bool t) → t = (!R.becomeB) → Vg.look E 0 = some (.pointer (some ⟨p, 0, none⟩)) → Vg.look E 1 = some (sendF b) → Sub [(0, .pointer (some ⟨p, 0, none⟩)), (1, sendF b), (31, .bool (!R.becomeB))] E := fun h0 h1 h2 h3 => Sub.cons h2 (Sub.cons h3 (Sub.bl h0 h1 (Sub.nil _)))
  refine VC.meetS (σ := Unit) (fun _ => [(0, .pointer (some ⟨p, 0, none⟩)), (1, sendF b), (31, .bool (!R.becomeB))]) (fun _ => repO p R x b S) (fun _ => True) ?_ ?_
  · refine VC.draw (.take 0 (.only 1 (ts 2 19 (ts 22 4 (.only 21 (ts 26 2 .nil)))))) (by kernel_rfl) (by decide +kernel) ?_
    refine VA.go (VA.callR (fun Fr w hF hs hS => in_spec Fr w (RepIn.pcs hS 0 rfl rfl rfl rfl rfl rfl).blk) rfl rfl (by (try refine Pd.st ?_);(repeat (first|exact Pd.nil|exact Pd.fnil|refine Pd.inner ?_|refine Pd.skip (by decide +kernel) ?_))) ?_)
    (repeat (first|refine yG (yN ?_)|refine yG (yD 0 rfl rfl rfl rfl rfl ?_)))
    cases h1 : R.inB with
    | false =>
      refine VA.go (VA.yes 7 true rfl rfl ?_)
      (repeat (first|refine yG (yN ?_)|refine yG (yD 0 rfl rfl rfl rfl rfl ?_)|refine yG (yU rfl rfl rfl rfl ?_)))
      refine VA.go (VA.yes 13 true rfl rfl ?_)
      (repeat (first|refine yG (yN ?_)|refine yG (yD 0 rfl rfl rfl rfl rfl ?_)|refine yG (yU rfl rfl rfl rfl ?_)))
      refine VA.go (VA.yes 20 true rfl rfl ?_)
      (repeat (first|refine yG (yN ?_)|refine yG (yD 0 rfl rfl rfl rfl rfl ?_)|refine yG (yU rfl rfl rfl rfl ?_)))
      refine VA.go (VA.offO rfl rfl ?_)
      (repeat (first|refine yG (yN ?_)|refine yG (yD 0 rfl rfl rfl rfl rfl ?_)|refine yG (yU rfl rfl rfl rfl ?_)))
      exact ⟨(), trivial, S3 rfl (by rw [RepM.becomeB, h1]; rfl) rfl rfl, Ent.refl⟩
    | true =>
    refine VA.go (VA.yes 7 false rfl rfl ?_)
    (repeat (first|refine yG (yN ?_)|refine yG (yD 0 rfl rfl rfl rfl rfl ?_)|refine yG (yU rfl rfl rfl rfl ?_)))
    cases h2 : R.whole with
    | true =>
      refine VA.go (VA.yes 13 true rfl rfl ?_)
      (repeat (first|refine yG (yN ?_)|refine yG (yD 0 rfl rfl rfl rfl rfl ?_)|refine yG (yU rfl rfl rfl rfl ?_)))
      refine VA.go (VA.yes 20 true rfl rfl ?_)
      (repeat (first|refine yG (yN ?_)|refine yG (yD 0 rfl rfl rfl rfl rfl ?_)|refine yG (yU rfl rfl rfl rfl ?_)))
      refine VA.go (VA.offO rfl rfl ?_)
      (repeat (first|refine yG (yN ?_)|refine yG (yD 0 rfl rfl rfl rfl rfl ?_)|refine yG (yU rfl rfl rfl rfl ?_)))
      exact ⟨(), trivial, S3 rfl (by rw [RepM.becomeB, h1, h2]; rfl) rfl rfl, Ent.refl⟩
    | false =>
    have q8 : (repCs R x)[0 + 8]? = some (.bool false) := by show some (Value.bool R.whole) = _; rw [h2]
    refine VA.go (VA.yes 13 false rfl rfl ?_)
    (repeat (first|refine yG (yN ?_)|refine yG (yD 0 rfl rfl rfl rfl rfl ?_)|refine yG (yU rfl rfl rfl rfl ?_)))
    by_cases h3 : R.base = -1
    · refine VA.go (VA.yes 20 true rfl (by simp [h3]) ?_)
      (repeat (first|refine yG (yN ?_)|refine yG (yD 0 rfl rfl rfl rfl rfl ?_)|refine yG (yU rfl rfl rfl rfl ?_)))
      refine VA.go (VA.offO rfl rfl ?_)
      (repeat (first|refine yG (yN ?_)|refine yG (yD 0 rfl rfl rfl rfl rfl ?_)|refine yG (yU rfl rfl rfl rfl ?_)))
      exact ⟨(), trivial, S3 rfl (by rw [RepM.becomeB, h1, h2, h3]; rfl) rfl rfl, Ent.refl⟩
    refine VA.go (VA.yes 20 false rfl (by simp [h3]) ?_)
    (repeat (first|refine yG (yN ?_)|refine yG (yD 0 rfl rfl rfl rfl rfl ?_)|refine yG (yU rfl rfl rfl rfl ?_)))
    refine VA.go (VA.callR (fun Fr w hF hs hS => Win.last_spec Fr w (RepIn.pcs hS 0 rfl rfl rfl rfl rfl rfl).win w0) rfl rfl (by (try refine Pd.st ?_);(repeat (first|exact Pd.nil|exact Pd.fnil|refine Pd.inner ?_|refine Pd.skip (by decide +kernel) ?_|refine zf (zo 0 rfl rfl) ?_|refine zf (zm 0 rfl rfl) ?_|refine zf (RdL.blk (RdL.one 0 rfl q8) rfl) ?_|refine zf ((RdL.one 0 rfl q8)) ?_|refine zc (zo 0 rfl rfl) ?_|refine zc (zm 0 rfl rfl) ?_|refine zc (RdL.blk (RdL.one 0 rfl q8) rfl) ?_|refine zc ((RdL.one 0 rfl q8)) ?_))) ?_)
    (repeat (first|refine yG (yN ?_)|refine yG (yD 0 rfl rfl rfl rfl rfl ?_)|refine yG (yU rfl rfl rfl rfl ?_)))
    exact ⟨(), trivial, S3 rfl (by
      rw [RepM.becomeB, h1, h2, decide_eq_true (show R.base ≠ -1 from h3)]
      by_cases h4 : R.win.last < R.base
      · rw [decide_eq_true h4, decide_eq_false (show ¬ R.base ≤ R.win.last by omega)]; rfl
      · rw [decide_eq_false h4, decide_eq_true (show R.base ≤ R.win.last by omega)]; rfl) rfl rfl, Ent.refl⟩
  rintro _ -
  refine VC.condN rfl (fun hb => ?_) (fun hb => VC.skip ?_)
  · exact VC.ret (Ret.void rfl repO_shut.ent ⟨rfl, by rw [RepM.becomeR, RepM.becomeM, hb]; simp⟩)
  have hbR : R.becomeR = { R with whole := true, start := R.win.last } := by rw [RepM.becomeR, hb]; rfl
  have hbM : R.becomeM = R.becomeR.baseM := by rw [RepM.becomeM, hb]; rfl
  unfold repO
  (repeat (first|refine zS ?_|refine zR ?_|refine zB ?_|refine zL ?_|refine zC ?_|refine zG (zN ?_)|refine zG (zD 0 rfl rfl rfl rfl ?_)))
  refine VO.go (VO.st 0 (cs' := repCs { R with whole := true } x) rfl rfl rfl rfl (Nat.le_of_ble_eq_true rfl) rfl rfl ?_)
  (repeat (first|refine zS ?_|refine zR ?_|refine zB ?_|refine zL ?_|refine zC ?_|refine zG (zN ?_)|refine zG (zD 0 rfl rfl rfl rfl ?_)))
  refine VO.go (VO.callV' (fun Fr w hF hs hS => Win.last_spec Fr w (hS.blk 3 rfl) w0) rfl ?_)
  refine VO.go (VO.st 0 (cs' := repCs { R with whole := true, start := R.win.last } x) rfl rfl rfl rfl (Nat.le_of_ble_eq_true rfl) rfl rfl ?_)
  (repeat (first|refine zS ?_|refine zR ?_|refine zB ?_|refine zL ?_|refine zC ?_|refine zG (zN ?_)|refine zG (zD 0 rfl rfl rfl rfl ?_)))
  refine VO.go (VO.callAt 6 rfl (fun Fr w hF hs hS => tellBase_spec (R := { R with whole := true, start := R.win.last }) Fr w (RepIn.pcs hS 0 rfl rfl rfl rfl rfl rfl) ok.ch (by omega)) rfl (ψ := fun v H => v = .tuple #[] ∧ H = outH b (S ++ RepM.baseM { R with whole := true, start := R.win.last })) (fun v L h => ⟨_, h.2, h.1, rfl⟩) ?_)
  rintro _ _ ⟨rfl, rfl⟩
  (repeat (first|refine zS ?_|refine zR ?_|refine zB ?_|refine zL ?_|refine zC ?_|refine zG (zN ?_)|refine zG (zD 0 rfl rfl rfl rfl ?_)))
  exact Ret.void rfl (repO_shut (R := { R with whole := true, start := R.win.last }) (x := x)).ent ⟨rfl, by rw [hbM, hbR]⟩
end
end Go.Proofs.YtbbnmgakmcppdaaGreat.Rep
namespace Go.Proofs.YtbbnmgakmcppdaaGreat.Rep
open Go Go.Proofs.YtbbnmgakmcppdaaGreat.Vg Go.Proofs.YtbbnmgakmcppdaaGreat.T Go.Proofs.YtbbnmgakmcppdaaGreat.Api Go.Proofs.YtbbnmgakmcppdaaGreat.Kv Go.Proofs.YtbbnmgakmcppdaaGreat.Ch Go.Proofs.YtbbnmgakmcppdaaGreat.Lg Go.Proofs.YtbbnmgakmcppdaaGreat.Rd Go.Proofs.YtbbnmgakmcppdaaGreat.Win Go.Proofs.YtbbnmgakmcppdaaGreat.Adm
set_option linter.unusedSimpArgs false
set_option linter.unusedVariables false
attribute [local irreducible] VO VC VA

def judgeM (R : RepM) (f : FrameM) (now : Int) : Int × ResM × AdmM :=
  if R.adm.may f = false then (10, resZ, R.adm)
  else if R.adm.barred f.client f.seq f.try_ = true then (7, resZ, R.adm)
  else if R.knownB f = false then (5, resZ, R.adm)
  else if R.headB = false then (4, resZ, R.adm)
  else if R.whole = false then (8, resZ, R.adm)
  else if R.drainsB = true then (3, resZ, R.adm)
  else if f.seq = (lastR R.log f.client).1 ∧ R.win.done < (lastR R.log f.client).2 then (6, resZ, R.adm)
  else if f.seq = (lastR R.log f.client).1 then (0, (atI (logRun R.log).2 (lastR R.log f.client).2).getD resZ, R.adm)
  else if f.seq < (lastR R.log f.client).1 then (7, resZ, R.adm)
  else if 4096 ≤ R.log.length then (1, resZ, R.adm)
  else ((R.adm.offerM f now).1, resZ, (R.adm.offerM f now).2)
section
variable {p : Nat} {R : RepM}
set_option maxRecDepth 100000 in
set_option maxHeartbeats 4000000 in
theorem judge_spec (Fr : Nat → Prop) (w : World) (ok : R.Ok) (f : FrameM) (m : MemS) (now : Int) : Tri Tryz.prog 137 [.pointer (some ⟨p, 0, none⟩), .agg (fmc (f, m)).toArray, .int .i64 now] Fr w [repH p R]
    (fun v L => v = .tuple #[.int .i64 (judgeM R f now).1, .agg (resC (judgeM R f now).2.1).toArray] ∧ L = [repH p { R with adm := (judgeM R f now).2.2 }]) := by
  have w0 := ok.win.cap0
  refine Tri.of 116 Tryz.func137 rfl (by kernel_rfl) tabOk rfl rfl ?_
  refine VC.seq (VC.region (VO.go (VO.boxA (vs := fmc (f, m)) rfl fun fb => ?_)))
  refine VO.go (VO.alloc rfl fun rb => VO.go (VO.nil ?_))
  refine VC.opn 2 rfl (HOpn.rep p R) ?_
  rintro x -
  have fin : ∀ {X : Cx} {fn : Func} {E : Env} (z : Int) (rr : ResM) (A' : AdmM), fn.results = #[.tmp 6, .cell 7 resT] → tyLook X.tab resT = some T.t42 → Vg.look E 6 = some (.int .i64 z) → Vg.look E 7 = some (.pointer (some ⟨rb, 0, none⟩)) → judgeM R f now = (z, rr, A') →
      Ret X fn (fun v L => v = .tuple #[.int .i64 (judgeM R f now).1, .agg (resC (judgeM R f now).2.1).toArray] ∧ L = [repH p { R with adm := (judgeM R f now).2.2 }]) E [pt p (repCs R x) repT, slH memT 2 x.a R.ch.ms.length x.c (flat memC R.ch.ms), logH x.lp R.log, winH x.wp R.win, admH x.ap A', rdsH x.rp R.rds, pt rb (resC rr) resT, pt fb (fmc (f, m)) frT] := fun z rr A' hr hT h4 h5 hj =>
    Ret.tmpCell 6 7 hr h4 h5 hT (RdL.many (ds := resC rr) 6 rfl rfl) (Imp.rep (R := { R with adm := A' }) x (Imp.pick 0 rfl (Imp.pick 0 rfl (Imp.pick 0 rfl (Imp.pick 0 rfl (Imp.pick 0 rfl (Imp.pick 0 rfl Imp.nil))))))).ent ⟨by rw [hj], by rw [hj]⟩
  show VC _ _ _ [pt p (repCs R x) repT, slH memT 2 x.a R.ch.ms.length x.c (flat memC R.ch.ms), logH x.lp R.log, winH x.wp R.win, admH x.ap R.adm, rdsH x.rp R.rds, pt rb (resC resZ) resT, pt fb (fmc (f, m)) frT] _
  refine VC.seq (VC.block ?_)
  refine VC.seq (VC.draw (ts 0 5 (.only 5 (ts 6 2 .nil))) (by kernel_rfl) (by decide +kernel) ?_)
  (repeat (first|refine yG (yN ?_)|refine yG (yD 0 rfl rfl rfl rfl rfl ?_)|refine yG (yD 1 rfl rfl rfl rfl rfl ?_)|refine yG (yD 2 rfl rfl rfl rfl rfl ?_)|refine yG (yD 3 rfl rfl rfl rfl rfl ?_)|refine yG (yD 4 rfl rfl rfl rfl rfl ?_)|refine yG (yD 5 rfl rfl rfl rfl rfl ?_)|refine yG (yD 6 rfl rfl rfl rfl rfl ?_)|refine yG (yD 7 rfl rfl rfl rfl rfl ?_)))
  refine VA.go (VA.ldA 7 (fmc (f, m)) rfl rfl rfl rfl rfl ?_)
  refine VA.go (VA.callR (fun Fr w hF hs hS => may_spec Fr w (f, m) (hS.at_ 4 rfl)) rfl rfl (by (try refine Pd.st ?_);(repeat (first|exact Pd.nil|exact Pd.fnil|refine Pd.inner ?_|refine Pd.skip (by decide +kernel) ?_|refine zf (zo 0 rfl rfl) ?_|refine zf (zo 1 rfl rfl) ?_|refine zf (zo 2 rfl rfl) ?_|refine zf (zo 3 rfl rfl) ?_|refine zf (zo 4 rfl rfl) ?_|refine zf (zo 5 rfl rfl) ?_|refine zf (zo 6 rfl rfl) ?_|refine zf (zo 7 rfl rfl) ?_|refine zf (zm 0 rfl rfl) ?_|refine zf (zm 1 rfl rfl) ?_|refine zf (zm 2 rfl rfl) ?_|refine zf (zm 3 rfl rfl) ?_|refine zf (zm 4 rfl rfl) ?_|refine zf (zm 5 rfl rfl) ?_|refine zf (zm 6 rfl rfl) ?_|refine zf (zm 7 rfl rfl) ?_|refine zc (zo 0 rfl rfl) ?_|refine zc (zo 1 rfl rfl) ?_|refine zc (zo 2 rfl rfl) ?_|refine zc (zo 3 rfl rfl) ?_|refine zc (zo 4 rfl rfl) ?_|refine zc (zo 5 rfl rfl) ?_|refine zc (zo 6 rfl rfl) ?_|refine zc (zo 7 rfl rfl) ?_|refine zc (zm 0 rfl rfl) ?_|refine zc (zm 1 rfl rfl) ?_|refine zc (zm 2 rfl rfl) ?_|refine zc (zm 3 rfl rfl) ?_|refine zc (zm 4 rfl rfl) ?_|refine zc (zm 5 rfl rfl) ?_|refine zc (zm 6 rfl rfl) ?_|refine zc (zm 7 rfl rfl) ?_))) ?_)
  (repeat (first|refine yG (yN ?_)|refine yG (yD 0 rfl rfl rfl rfl rfl ?_)))
  refine VC.condN rfl (fun h1 => ?_) (fun h1 => ?_)
  · refine VC.seq (VC.draw (ts 0 2 (.only 2 .nil)) (by kernel_rfl) (by decide +kernel) ?_)
    refine VA.go (VA.ldA 6 (resC resZ) rfl rfl rfl rfl rfl ?_)
    (repeat (first|refine yG (yN ?_)|refine yG (yD 0 rfl rfl rfl rfl rfl ?_)))
    refine VA.go (VA.stA (vs := resC resZ) 6 rfl rfl rfl rfl rfl (Nat.le_refl _) rfl rfl rfl (by (try refine Pd.st ?_);(repeat (first|exact Pd.nil|exact Pd.fnil|refine Pd.inner ?_|refine Pd.skip (by decide +kernel) ?_|refine zf (zo 0 rfl rfl) ?_|refine zf (zo 1 rfl rfl) ?_|refine zf (zo 2 rfl rfl) ?_|refine zf (zo 3 rfl rfl) ?_|refine zf (zo 4 rfl rfl) ?_|refine zf (zo 5 rfl rfl) ?_|refine zf (zo 6 rfl rfl) ?_|refine zf (zo 7 rfl rfl) ?_|refine zf (zm 0 rfl rfl) ?_|refine zf (zm 1 rfl rfl) ?_|refine zf (zm 2 rfl rfl) ?_|refine zf (zm 3 rfl rfl) ?_|refine zf (zm 4 rfl rfl) ?_|refine zf (zm 5 rfl rfl) ?_|refine zf (zm 6 rfl rfl) ?_|refine zf (zm 7 rfl rfl) ?_|refine zc (zo 0 rfl rfl) ?_|refine zc (zo 1 rfl rfl) ?_|refine zc (zo 2 rfl rfl) ?_|refine zc (zo 3 rfl rfl) ?_|refine zc (zo 4 rfl rfl) ?_|refine zc (zo 5 rfl rfl) ?_|refine zc (zo 6 rfl rfl) ?_|refine zc (zo 7 rfl rfl) ?_|refine zc (zm 0 rfl rfl) ?_|refine zc (zm 1 rfl rfl) ?_|refine zc (zm 2 rfl rfl) ?_|refine zc (zm 3 rfl rfl) ?_|refine zc (zm 4 rfl rfl) ?_|refine zc (zm 5 rfl rfl) ?_|refine zc (zm 6 rfl rfl) ?_|refine zc (zm 7 rfl rfl) ?_))) ?_)
    (repeat (first|refine yG (yN ?_)|refine yG (yD 0 rfl rfl rfl rfl rfl ?_)))
    exact VC.ret (fin 10 resZ R.adm rfl rfl rfl rfl (by rw [judgeM, if_pos h1]))
  have k1 : ¬ R.adm.may f = false := by rw [h1]; simp
  refine VC.seq (VC.draw (ts 0 10 (.only 10 (.take 11 .nil))) (by kernel_rfl) (by decide +kernel) ?_)
  (repeat (first|refine yG (yN ?_)|refine yG (yD 0 rfl rfl rfl rfl rfl ?_)|refine yG (yD 1 rfl rfl rfl rfl rfl ?_)|refine yG (yD 2 rfl rfl rfl rfl rfl ?_)|refine yG (yD 3 rfl rfl rfl rfl rfl ?_)|refine yG (yD 4 rfl rfl rfl rfl rfl ?_)|refine yG (yD 5 rfl rfl rfl rfl rfl ?_)|refine yG (yD 6 rfl rfl rfl rfl rfl ?_)|refine yG (yD 7 rfl rfl rfl rfl rfl ?_)))
  refine VA.go (VA.callR (fun Fr w hF hs hS => barred_spec Fr w f.client f.seq f.try_ (hS.at_ 4 rfl)) rfl rfl (by (try refine Pd.st ?_);(repeat (first|exact Pd.nil|exact Pd.fnil|refine Pd.inner ?_|refine Pd.skip (by decide +kernel) ?_|refine zf (zo 0 rfl rfl) ?_|refine zf (zo 1 rfl rfl) ?_|refine zf (zo 2 rfl rfl) ?_|refine zf (zo 3 rfl rfl) ?_|refine zf (zo 4 rfl rfl) ?_|refine zf (zo 5 rfl rfl) ?_|refine zf (zo 6 rfl rfl) ?_|refine zf (zo 7 rfl rfl) ?_|refine zf (zm 0 rfl rfl) ?_|refine zf (zm 1 rfl rfl) ?_|refine zf (zm 2 rfl rfl) ?_|refine zf (zm 3 rfl rfl) ?_|refine zf (zm 4 rfl rfl) ?_|refine zf (zm 5 rfl rfl) ?_|refine zf (zm 6 rfl rfl) ?_|refine zf (zm 7 rfl rfl) ?_|refine zc (zo 0 rfl rfl) ?_|refine zc (zo 1 rfl rfl) ?_|refine zc (zo 2 rfl rfl) ?_|refine zc (zo 3 rfl rfl) ?_|refine zc (zo 4 rfl rfl) ?_|refine zc (zo 5 rfl rfl) ?_|refine zc (zo 6 rfl rfl) ?_|refine zc (zo 7 rfl rfl) ?_|refine zc (zm 0 rfl rfl) ?_|refine zc (zm 1 rfl rfl) ?_|refine zc (zm 2 rfl rfl) ?_|refine zc (zm 3 rfl rfl) ?_|refine zc (zm 4 rfl rfl) ?_|refine zc (zm 5 rfl rfl) ?_|refine zc (zm 6 rfl rfl) ?_|refine zc (zm 7 rfl rfl) ?_))) ?_)
  (repeat (first|refine yG (yN ?_)|refine yG (yD 0 rfl rfl rfl rfl rfl ?_)))
  refine VC.cond rfl (fun h2 => ?_) (fun h2 => ?_)
  · refine VC.seq (VC.draw (ts 0 2 (.only 2 .nil)) (by kernel_rfl) (by decide +kernel) ?_)
    refine VA.go (VA.ldA 6 (resC resZ) rfl rfl rfl rfl rfl ?_)
    (repeat (first|refine yG (yN ?_)|refine yG (yD 0 rfl rfl rfl rfl rfl ?_)))
    refine VA.go (VA.stA (vs := resC resZ) 6 rfl rfl rfl rfl rfl (Nat.le_refl _) rfl rfl rfl (by (try refine Pd.st ?_);(repeat (first|exact Pd.nil|exact Pd.fnil|refine Pd.inner ?_|refine Pd.skip (by decide +kernel) ?_|refine zf (zo 0 rfl rfl) ?_|refine zf (zo 1 rfl rfl) ?_|refine zf (zo 2 rfl rfl) ?_|refine zf (zo 3 rfl rfl) ?_|refine zf (zo 4 rfl rfl) ?_|refine zf (zo 5 rfl rfl) ?_|refine zf (zo 6 rfl rfl) ?_|refine zf (zo 7 rfl rfl) ?_|refine zf (zm 0 rfl rfl) ?_|refine zf (zm 1 rfl rfl) ?_|refine zf (zm 2 rfl rfl) ?_|refine zf (zm 3 rfl rfl) ?_|refine zf (zm 4 rfl rfl) ?_|refine zf (zm 5 rfl rfl) ?_|refine zf (zm 6 rfl rfl) ?_|refine zf (zm 7 rfl rfl) ?_|refine zc (zo 0 rfl rfl) ?_|refine zc (zo 1 rfl rfl) ?_|refine zc (zo 2 rfl rfl) ?_|refine zc (zo 3 rfl rfl) ?_|refine zc (zo 4 rfl rfl) ?_|refine zc (zo 5 rfl rfl) ?_|refine zc (zo 6 rfl rfl) ?_|refine zc (zo 7 rfl rfl) ?_|refine zc (zm 0 rfl rfl) ?_|refine zc (zm 1 rfl rfl) ?_|refine zc (zm 2 rfl rfl) ?_|refine zc (zm 3 rfl rfl) ?_|refine zc (zm 4 rfl rfl) ?_|refine zc (zm 5 rfl rfl) ?_|refine zc (zm 6 rfl rfl) ?_|refine zc (zm 7 rfl rfl) ?_))) ?_)
    (repeat (first|refine yG (yN ?_)|refine yG (yD 0 rfl rfl rfl rfl rfl ?_)))
    exact VC.ret (fin 7 resZ R.adm rfl rfl rfl rfl (by rw [judgeM, if_neg k1, if_pos h2]))
  have k2 : ¬ R.adm.barred f.client f.seq f.try_ = true := by rw [h2]; simp
  (repeat (first|refine zS ?_|refine zR ?_|refine zB ?_|refine zL ?_|refine zC ?_|refine zG (zN ?_)|refine zG (zD 0 rfl rfl rfl rfl ?_)|refine zG (zD 1 rfl rfl rfl rfl ?_)|refine zG (zD 2 rfl rfl rfl rfl ?_)|refine zG (zD 3 rfl rfl rfl rfl ?_)|refine zG (zD 4 rfl rfl rfl rfl ?_)|refine zG (zD 5 rfl rfl rfl rfl ?_)|refine zG (zD 6 rfl rfl rfl rfl ?_)|refine zG (zD 7 rfl rfl rfl rfl ?_)))
  refine VO.go (VO.ldA 7 (fmc (f, m)) rfl rfl rfl rfl ?_)
  refine VO.go (VO.callV' (fun Fr w hF hs hS => known_spec Fr w (hS.blk 0 rfl) f (m.1, 0, m.2)) rfl ?_)
  (repeat (first|refine zS ?_|refine zR ?_|refine zB ?_|refine zL ?_|refine zC ?_|refine zG (zN ?_)|refine zG (zD 0 rfl rfl rfl rfl ?_)))
  refine VC.condN rfl (fun h3 => ?_) (fun h3 => ?_)
  · refine VC.seq (VC.draw (ts 0 2 (.only 2 .nil)) (by kernel_rfl) (by decide +kernel) ?_)
    refine VA.go (VA.ldA 6 (resC resZ) rfl rfl rfl rfl rfl ?_)
    (repeat (first|refine yG (yN ?_)|refine yG (yD 0 rfl rfl rfl rfl rfl ?_)))
    refine VA.go (VA.stA (vs := resC resZ) 6 rfl rfl rfl rfl rfl (Nat.le_refl _) rfl rfl rfl (by (try refine Pd.st ?_);(repeat (first|exact Pd.nil|exact Pd.fnil|refine Pd.inner ?_|refine Pd.skip (by decide +kernel) ?_|refine zf (zo 0 rfl rfl) ?_|refine zf (zo 1 rfl rfl) ?_|refine zf (zo 2 rfl rfl) ?_|refine zf (zo 3 rfl rfl) ?_|refine zf (zo 4 rfl rfl) ?_|refine zf (zo 5 rfl rfl) ?_|refine zf (zo 6 rfl rfl) ?_|refine zf (zo 7 rfl rfl) ?_|refine zf (zm 0 rfl rfl) ?_|refine zf (zm 1 rfl rfl) ?_|refine zf (zm 2 rfl rfl) ?_|refine zf (zm 3 rfl rfl) ?_|refine zf (zm 4 rfl rfl) ?_|refine zf (zm 5 rfl rfl) ?_|refine zf (zm 6 rfl rfl) ?_|refine zf (zm 7 rfl rfl) ?_|refine zc (zo 0 rfl rfl) ?_|refine zc (zo 1 rfl rfl) ?_|refine zc (zo 2 rfl rfl) ?_|refine zc (zo 3 rfl rfl) ?_|refine zc (zo 4 rfl rfl) ?_|refine zc (zo 5 rfl rfl) ?_|refine zc (zo 6 rfl rfl) ?_|refine zc (zo 7 rfl rfl) ?_|refine zc (zm 0 rfl rfl) ?_|refine zc (zm 1 rfl rfl) ?_|refine zc (zm 2 rfl rfl) ?_|refine zc (zm 3 rfl rfl) ?_|refine zc (zm 4 rfl rfl) ?_|refine zc (zm 5 rfl rfl) ?_|refine zc (zm 6 rfl rfl) ?_|refine zc (zm 7 rfl rfl) ?_))) ?_)
    (repeat (first|refine yG (yN ?_)|refine yG (yD 0 rfl rfl rfl rfl rfl ?_)))
    exact VC.ret (fin 5 resZ R.adm rfl rfl rfl rfl (by rw [judgeM, if_neg k1, if_neg k2, if_pos h3]))
  have k3 : ¬ R.knownB f = false := by rw [h3]; simp
  (repeat (first|refine zS ?_|refine zR ?_|refine zB ?_|refine zL ?_|refine zC ?_|refine zG (zN ?_)|refine zG (zD 0 rfl rfl rfl rfl ?_)))
  refine VO.go (VO.callV' (fun Fr w hF hs hS => head_spec Fr w (hS.blk 0 rfl) (RwIn.slH memC_len (hS.at_ 1 rfl)) ok.ch) rfl ?_)
  (repeat (first|refine zS ?_|refine zR ?_|refine zB ?_|refine zL ?_|refine zC ?_|refine zG (zN ?_)|refine zG (zD 0 rfl rfl rfl rfl ?_)))
  refine VC.condN rfl (fun h4 => ?_) (fun h4 => ?_)
  · refine VC.seq (VC.draw (ts 0 2 (.only 2 .nil)) (by kernel_rfl) (by decide +kernel) ?_)
    refine VA.go (VA.ldA 6 (resC resZ) rfl rfl rfl rfl rfl ?_)
    (repeat (first|refine yG (yN ?_)|refine yG (yD 0 rfl rfl rfl rfl rfl ?_)))
    refine VA.go (VA.stA (vs := resC resZ) 6 rfl rfl rfl rfl rfl (Nat.le_refl _) rfl rfl rfl (by (try refine Pd.st ?_);(repeat (first|exact Pd.nil|exact Pd.fnil|refine Pd.inner ?_|refine Pd.skip (by decide +kernel) ?_|refine zf (zo 0 rfl rfl) ?_|refine zf (zo 1 rfl rfl) ?_|refine zf (zo 2 rfl rfl) ?_|refine zf (zo 3 rfl rfl) ?_|refine zf (zo 4 rfl rfl) ?_|refine zf (zo 5 rfl rfl) ?_|refine zf (zo 6 rfl rfl) ?_|refine zf (zo 7 rfl rfl) ?_|refine zf (zm 0 rfl rfl) ?_|refine zf (zm 1 rfl rfl) ?_|refine zf (zm 2 rfl rfl) ?_|refine zf (zm 3 rfl rfl) ?_|refine zf (zm 4 rfl rfl) ?_|refine zf (zm 5 rfl rfl) ?_|refine zf (zm 6 rfl rfl) ?_|refine zf (zm 7 rfl rfl) ?_|refine zc (zo 0 rfl rfl) ?_|refine zc (zo 1 rfl rfl) ?_|refine zc (zo 2 rfl rfl) ?_|refine zc (zo 3 rfl rfl) ?_|refine zc (zo 4 rfl rfl) ?_|refine zc (zo 5 rfl rfl) ?_|refine zc (zo 6 rfl rfl) ?_|refine zc (zo 7 rfl rfl) ?_|refine zc (zm 0 rfl rfl) ?_|refine zc (zm 1 rfl rfl) ?_|refine zc (zm 2 rfl rfl) ?_|refine zc (zm 3 rfl rfl) ?_|refine zc (zm 4 rfl rfl) ?_|refine zc (zm 5 rfl rfl) ?_|refine zc (zm 6 rfl rfl) ?_|refine zc (zm 7 rfl rfl) ?_))) ?_)
    (repeat (first|refine yG (yN ?_)|refine yG (yD 0 rfl rfl rfl rfl rfl ?_)))
    exact VC.ret (fin 4 resZ R.adm rfl rfl rfl rfl (by rw [judgeM, if_neg k1, if_neg k2, if_neg k3, if_pos h4]))
  have k4 : ¬ R.headB = false := by rw [h4]; simp
  (repeat (first|refine zS ?_|refine zR ?_|refine zB ?_|refine zL ?_|refine zC ?_|refine zG (zN ?_)|refine zG (zD 0 rfl rfl rfl rfl ?_)))
  refine VC.condN rfl (fun h5 => ?_) (fun h5 => ?_)
  · refine VC.seq (VC.draw (ts 0 2 (.only 2 .nil)) (by kernel_rfl) (by decide +kernel) ?_)
    refine VA.go (VA.ldA 6 (resC resZ) rfl rfl rfl rfl rfl ?_)
    (repeat (first|refine yG (yN ?_)|refine yG (yD 0 rfl rfl rfl rfl rfl ?_)))
    refine VA.go (VA.stA (vs := resC resZ) 6 rfl rfl rfl rfl rfl (Nat.le_refl _) rfl rfl rfl (by (try refine Pd.st ?_);(repeat (first|exact Pd.nil|exact Pd.fnil|refine Pd.inner ?_|refine Pd.skip (by decide +kernel) ?_|refine zf (zo 0 rfl rfl) ?_|refine zf (zo 1 rfl rfl) ?_|refine zf (zo 2 rfl rfl) ?_|refine zf (zo 3 rfl rfl) ?_|refine zf (zo 4 rfl rfl) ?_|refine zf (zo 5 rfl rfl) ?_|refine zf (zo 6 rfl rfl) ?_|refine zf (zo 7 rfl rfl) ?_|refine zf (zm 0 rfl rfl) ?_|refine zf (zm 1 rfl rfl) ?_|refine zf (zm 2 rfl rfl) ?_|refine zf (zm 3 rfl rfl) ?_|refine zf (zm 4 rfl rfl) ?_|refine zf (zm 5 rfl rfl) ?_|refine zf (zm 6 rfl rfl) ?_|refine zf (zm 7 rfl rfl) ?_|refine zc (zo 0 rfl rfl) ?_|refine zc (zo 1 rfl rfl) ?_|refine zc (zo 2 rfl rfl) ?_|refine zc (zo 3 rfl rfl) ?_|refine zc (zo 4 rfl rfl) ?_|refine zc (zo 5 rfl rfl) ?_|refine zc (zo 6 rfl rfl) ?_|refine zc (zo 7 rfl rfl) ?_|refine zc (zm 0 rfl rfl) ?_|refine zc (zm 1 rfl rfl) ?_|refine zc (zm 2 rfl rfl) ?_|refine zc (zm 3 rfl rfl) ?_|refine zc (zm 4 rfl rfl) ?_|refine zc (zm 5 rfl rfl) ?_|refine zc (zm 6 rfl rfl) ?_|refine zc (zm 7 rfl rfl) ?_))) ?_)
    (repeat (first|refine yG (yN ?_)|refine yG (yD 0 rfl rfl rfl rfl rfl ?_)))
    exact VC.ret (fin 8 resZ R.adm rfl rfl rfl rfl (by rw [judgeM, if_neg k1, if_neg k2, if_neg k3, if_neg k4, if_pos h5]))
  have k5 : ¬ R.whole = false := by rw [h5]; simp
  (repeat (first|refine zS ?_|refine zR ?_|refine zB ?_|refine zL ?_|refine zC ?_|refine zG (zN ?_)|refine zG (zD 0 rfl rfl rfl rfl ?_)))
  refine VO.go (VO.callV' (fun Fr w hF hs hS => drains_spec Fr w (hS.blk 0 rfl)) rfl ?_)
  (repeat (first|refine zS ?_|refine zR ?_|refine zB ?_|refine zL ?_|refine zC ?_|refine zG (zN ?_)|refine zG (zD 0 rfl rfl rfl rfl ?_)))
  refine VC.cond rfl (fun h6 => ?_) (fun h6 => VC.skip ?_)
  · refine VC.seq (VC.draw (ts 0 2 (.only 2 .nil)) (by kernel_rfl) (by decide +kernel) ?_)
    refine VA.go (VA.ldA 6 (resC resZ) rfl rfl rfl rfl rfl ?_)
    (repeat (first|refine yG (yN ?_)|refine yG (yD 0 rfl rfl rfl rfl rfl ?_)))
    refine VA.go (VA.stA (vs := resC resZ) 6 rfl rfl rfl rfl rfl (Nat.le_refl _) rfl rfl rfl (by (try refine Pd.st ?_);(repeat (first|exact Pd.nil|exact Pd.fnil|refine Pd.inner ?_|refine Pd.skip (by decide +kernel) ?_|refine zf (zo 0 rfl rfl) ?_|refine zf (zo 1 rfl rfl) ?_|refine zf (zo 2 rfl rfl) ?_|refine zf (zo 3 rfl rfl) ?_|refine zf (zo 4 rfl rfl) ?_|refine zf (zo 5 rfl rfl) ?_|refine zf (zo 6 rfl rfl) ?_|refine zf (zo 7 rfl rfl) ?_|refine zf (zm 0 rfl rfl) ?_|refine zf (zm 1 rfl rfl) ?_|refine zf (zm 2 rfl rfl) ?_|refine zf (zm 3 rfl rfl) ?_|refine zf (zm 4 rfl rfl) ?_|refine zf (zm 5 rfl rfl) ?_|refine zf (zm 6 rfl rfl) ?_|refine zf (zm 7 rfl rfl) ?_|refine zc (zo 0 rfl rfl) ?_|refine zc (zo 1 rfl rfl) ?_|refine zc (zo 2 rfl rfl) ?_|refine zc (zo 3 rfl rfl) ?_|refine zc (zo 4 rfl rfl) ?_|refine zc (zo 5 rfl rfl) ?_|refine zc (zo 6 rfl rfl) ?_|refine zc (zo 7 rfl rfl) ?_|refine zc (zm 0 rfl rfl) ?_|refine zc (zm 1 rfl rfl) ?_|refine zc (zm 2 rfl rfl) ?_|refine zc (zm 3 rfl rfl) ?_|refine zc (zm 4 rfl rfl) ?_|refine zc (zm 5 rfl rfl) ?_|refine zc (zm 6 rfl rfl) ?_|refine zc (zm 7 rfl rfl) ?_))) ?_)
    (repeat (first|refine yG (yN ?_)|refine yG (yD 0 rfl rfl rfl rfl rfl ?_)))
    exact VC.ret (fin 3 resZ R.adm rfl rfl rfl rfl (by rw [judgeM, if_neg k1, if_neg k2, if_neg k3, if_neg k4, if_neg k5, if_pos h6]))
  have k6 : ¬ R.drainsB = true := by rw [h6]; simp
  refine VC.seq (VC.draw (ts 0 6 (.only 6 (ts 7 5 .nil))) (by kernel_rfl) (by decide +kernel) ?_)
  (repeat (first|refine yG (yN ?_)|refine yG (yD 0 rfl rfl rfl rfl rfl ?_)|refine yG (yD 1 rfl rfl rfl rfl rfl ?_)|refine yG (yD 2 rfl rfl rfl rfl rfl ?_)|refine yG (yD 3 rfl rfl rfl rfl rfl ?_)|refine yG (yD 4 rfl rfl rfl rfl rfl ?_)|refine yG (yD 5 rfl rfl rfl rfl rfl ?_)|refine yG (yD 6 rfl rfl rfl rfl rfl ?_)|refine yG (yD 7 rfl rfl rfl rfl rfl ?_)))
  refine VA.go (VA.callR (fun Fr w hF hs hS => Lg.last_spec Fr w (hS.at_ 2 rfl) f.client) rfl rfl (by (try refine Pd.st ?_);(repeat (first|exact Pd.nil|exact Pd.fnil|refine Pd.inner ?_|refine Pd.skip (by decide +kernel) ?_|refine zf (zo 0 rfl rfl) ?_|refine zf (zo 1 rfl rfl) ?_|refine zf (zo 2 rfl rfl) ?_|refine zf (zo 3 rfl rfl) ?_|refine zf (zo 4 rfl rfl) ?_|refine zf (zo 5 rfl rfl) ?_|refine zf (zo 6 rfl rfl) ?_|refine zf (zo 7 rfl rfl) ?_|refine zf (zm 0 rfl rfl) ?_|refine zf (zm 1 rfl rfl) ?_|refine zf (zm 2 rfl rfl) ?_|refine zf (zm 3 rfl rfl) ?_|refine zf (zm 4 rfl rfl) ?_|refine zf (zm 5 rfl rfl) ?_|refine zf (zm 6 rfl rfl) ?_|refine zf (zm 7 rfl rfl) ?_|refine zc (zo 0 rfl rfl) ?_|refine zc (zo 1 rfl rfl) ?_|refine zc (zo 2 rfl rfl) ?_|refine zc (zo 3 rfl rfl) ?_|refine zc (zo 4 rfl rfl) ?_|refine zc (zo 5 rfl rfl) ?_|refine zc (zo 6 rfl rfl) ?_|refine zc (zo 7 rfl rfl) ?_|refine zc (zm 0 rfl rfl) ?_|refine zc (zm 1 rfl rfl) ?_|refine zc (zm 2 rfl rfl) ?_|refine zc (zm 3 rfl rfl) ?_|refine zc (zm 4 rfl rfl) ?_|refine zc (zm 5 rfl rfl) ?_|refine zc (zm 6 rfl rfl) ?_|refine zc (zm 7 rfl rfl) ?_))) ?_)
  (repeat (first|refine yG (yN ?_)|refine yG (yD 0 rfl rfl rfl rfl rfl ?_)))
  refine VC.seq (VC.block ?_)
  have hi2 := ok.lasti f.client
  have hl1 := ok.last; have hl2 := ok.win.last1
  refine VC.seq ?_
  refine VC.meetS (σ := Unit) (fun _ => [(0, .pointer (some ⟨p, 0, none⟩)), (2, .int .i64 now), (4, .pointer (some ⟨fb, 0, none⟩)), (6, .int .i64 0), (7, .pointer (some ⟨rb, 0, none⟩)), (8, .int .i64 (lastR R.log f.client).1), (9, .int .i64 (lastR R.log f.client).2), (64, .bool ((f.seq == (lastR R.log f.client).1) && decide (R.win.done < (lastR R.log f.client).2)))])
    (fun _ => [pt p (repCs R x) repT, slH memT 2 x.a R.ch.ms.length x.c (flat memC R.ch.ms), logH x.lp R.log, winH x.wp R.win, admH x.ap R.adm, rdsH x.rp R.rds, pt rb (resC resZ) resT, pt fb (fmc (f, m)) frT]) (fun _ => True) ?_ ?_
  · (repeat (first|refine zS ?_|refine zR ?_|refine zB ?_|refine zL ?_|refine zC ?_|refine zG (zN ?_)|refine zG (zD 0 rfl rfl rfl rfl ?_)|refine zG (zD 1 rfl rfl rfl rfl ?_)|refine zG (zD 2 rfl rfl rfl rfl ?_)|refine zG (zD 3 rfl rfl rfl rfl ?_)|refine zG (zD 4 rfl rfl rfl rfl ?_)|refine zG (zD 5 rfl rfl rfl rfl ?_)|refine zG (zD 6 rfl rfl rfl rfl ?_)|refine zG (zD 7 rfl rfl rfl rfl ?_)))
    cases h7 : (f.seq == (lastR R.log f.client).1) with
    | false =>
      refine VO.go (VO.yes 69 false rfl h7 ?_)
      (repeat (first|refine zS ?_|refine zR ?_|refine zB ?_|refine zL ?_|refine zC ?_|refine zG (zN ?_)|refine zG (zD 0 rfl rfl rfl rfl ?_)|refine zG (zU rfl rfl rfl ?_)))
      exact ⟨(), trivial, Sub.cons rfl (Sub.cons rfl (Sub.cons rfl (Sub.cons rfl (Sub.cons rfl (Sub.cons rfl (Sub.cons rfl (Sub.bl rfl rfl (Sub.nil _)))))))), Ent.refl⟩
    | true =>
      refine VO.go (VO.yes 69 true rfl h7 ?_)
      (repeat (first|refine zS ?_|refine zR ?_|refine zB ?_|refine zL ?_|refine zC ?_|refine zG (zN ?_)|refine zG (zD 0 rfl rfl rfl rfl ?_)|refine zG (zU rfl rfl rfl ?_)))
      refine VO.go (VO.callV' (fun Fr w hF hs hS => Win.done_spec Fr w (hS.blk 3 rfl) w0) rfl ?_)
      (repeat (first|refine zS ?_|refine zR ?_|refine zB ?_|refine zL ?_|refine zC ?_|refine zG (zN ?_)|refine zG (zD 0 rfl rfl rfl rfl ?_)|refine zG (zU rfl rfl rfl ?_)))
      exact ⟨(), trivial, Sub.cons rfl (Sub.cons rfl (Sub.cons rfl (Sub.cons rfl (Sub.cons rfl (Sub.cons rfl (Sub.cons rfl (Sub.bl rfl rfl (Sub.nil _)))))))), Ent.refl⟩
  rintro _ -
  refine VC.cond rfl (fun h7 => ?_) (fun h7 => ?_)
  · have k7 : f.seq = (lastR R.log f.client).1 ∧ R.win.done < (lastR R.log f.client).2 := by simpa using h7
    refine VC.seq (VC.draw (ts 0 2 (.only 2 .nil)) (by kernel_rfl) (by decide +kernel) ?_)
    refine VA.go (VA.ldA 6 (resC resZ) rfl rfl rfl rfl rfl ?_)
    (repeat (first|refine yG (yN ?_)|refine yG (yD 0 rfl rfl rfl rfl rfl ?_)))
    refine VA.go (VA.stA (vs := resC resZ) 6 rfl rfl rfl rfl rfl (Nat.le_refl _) rfl rfl rfl (by (try refine Pd.st ?_);(repeat (first|exact Pd.nil|exact Pd.fnil|refine Pd.inner ?_|refine Pd.skip (by decide +kernel) ?_|refine zf (zo 0 rfl rfl) ?_|refine zf (zo 1 rfl rfl) ?_|refine zf (zo 2 rfl rfl) ?_|refine zf (zo 3 rfl rfl) ?_|refine zf (zo 4 rfl rfl) ?_|refine zf (zo 5 rfl rfl) ?_|refine zf (zo 6 rfl rfl) ?_|refine zf (zo 7 rfl rfl) ?_|refine zf (zm 0 rfl rfl) ?_|refine zf (zm 1 rfl rfl) ?_|refine zf (zm 2 rfl rfl) ?_|refine zf (zm 3 rfl rfl) ?_|refine zf (zm 4 rfl rfl) ?_|refine zf (zm 5 rfl rfl) ?_|refine zf (zm 6 rfl rfl) ?_|refine zf (zm 7 rfl rfl) ?_|refine zc (zo 0 rfl rfl) ?_|refine zc (zo 1 rfl rfl) ?_|refine zc (zo 2 rfl rfl) ?_|refine zc (zo 3 rfl rfl) ?_|refine zc (zo 4 rfl rfl) ?_|refine zc (zo 5 rfl rfl) ?_|refine zc (zo 6 rfl rfl) ?_|refine zc (zo 7 rfl rfl) ?_|refine zc (zm 0 rfl rfl) ?_|refine zc (zm 1 rfl rfl) ?_|refine zc (zm 2 rfl rfl) ?_|refine zc (zm 3 rfl rfl) ?_|refine zc (zm 4 rfl rfl) ?_|refine zc (zm 5 rfl rfl) ?_|refine zc (zm 6 rfl rfl) ?_|refine zc (zm 7 rfl rfl) ?_))) ?_)
    (repeat (first|refine yG (yN ?_)|refine yG (yD 0 rfl rfl rfl rfl rfl ?_)))
    exact VC.ret (fin 6 resZ R.adm rfl rfl rfl rfl (by rw [judgeM, if_neg k1, if_neg k2, if_neg k3, if_neg k4, if_neg k5, if_neg k6, if_pos k7]))
  have k7 : ¬ (f.seq = (lastR R.log f.client).1 ∧ R.win.done < (lastR R.log f.client).2) := fun h => by rw [decide_eq_true h.2, h.1] at h7; simp at h7
  (repeat (first|refine zS ?_|refine zR ?_|refine zB ?_|refine zL ?_|refine zC ?_|refine zG (zN ?_)|refine zG (zD 0 rfl rfl rfl rfl ?_)|refine zG (zD 1 rfl rfl rfl rfl ?_)|refine zG (zD 2 rfl rfl rfl rfl ?_)|refine zG (zD 3 rfl rfl rfl rfl ?_)|refine zG (zD 4 rfl rfl rfl rfl ?_)|refine zG (zD 5 rfl rfl rfl rfl ?_)|refine zG (zD 6 rfl rfl rfl rfl ?_)|refine zG (zD 7 rfl rfl rfl rfl ?_)))
  refine VC.condE rfl (fun h8 => ?_) (fun h8 => ?_)
  · (repeat (first|refine zS ?_|refine zR ?_|refine zB ?_|refine zL ?_|refine zC ?_|refine zG (zN ?_)|refine zG (zD 0 rfl rfl rfl rfl ?_)))
    refine VO.go (VO.callV' (fun Fr w hF hs hS => Lg.result_spec Fr w (hS.at_ 2 rfl) (lastR R.log f.client).2 (by omega) (by omega)) rfl ?_)
    (repeat (first|refine zS ?_|refine zR ?_|refine zB ?_|refine zL ?_|refine zC ?_|refine zG (zN ?_)|refine zG (zD 0 rfl rfl rfl rfl ?_)))
    refine VO.go (VO.stA (vs := resC ((atI (logRun R.log).2 (lastR R.log f.client).2).getD resZ)) 6 rfl rfl rfl rfl (Nat.le_refl _) rfl rfl rfl (VO.go (VO.nil ?_)))
    refine VC.seq (VC.draw (ts 0 2 (.only 2 .nil)) (by kernel_rfl) (by decide +kernel) ?_)
    refine VA.go (VA.ldA 6 (resC ((atI (logRun R.log).2 (lastR R.log f.client).2).getD resZ)) rfl rfl rfl rfl rfl ?_)
    (repeat (first|refine yG (yN ?_)|refine yG (yD 0 rfl rfl rfl rfl rfl ?_)))
    refine VA.go (VA.stA (vs := resC ((atI (logRun R.log).2 (lastR R.log f.client).2).getD resZ)) 6 rfl rfl rfl rfl rfl (Nat.le_refl _) rfl rfl rfl (by (try refine Pd.st ?_);(repeat (first|exact Pd.nil|exact Pd.fnil|refine Pd.inner ?_|refine Pd.skip (by decide +kernel) ?_|refine zf (zo 0 rfl rfl) ?_|refine zf (zo 1 rfl rfl) ?_|refine zf (zo 2 rfl rfl) ?_|refine zf (zo 3 rfl rfl) ?_|refine zf (zo 4 rfl rfl) ?_|refine zf (zo 5 rfl rfl) ?_|refine zf (zo 6 rfl rfl) ?_|refine zf (zo 7 rfl rfl) ?_|refine zf (zm 0 rfl rfl) ?_|refine zf (zm 1 rfl rfl) ?_|refine zf (zm 2 rfl rfl) ?_|refine zf (zm 3 rfl rfl) ?_|refine zf (zm 4 rfl rfl) ?_|refine zf (zm 5 rfl rfl) ?_|refine zf (zm 6 rfl rfl) ?_|refine zf (zm 7 rfl rfl) ?_|refine zc (zo 0 rfl rfl) ?_|refine zc (zo 1 rfl rfl) ?_|refine zc (zo 2 rfl rfl) ?_|refine zc (zo 3 rfl rfl) ?_|refine zc (zo 4 rfl rfl) ?_|refine zc (zo 5 rfl rfl) ?_|refine zc (zo 6 rfl rfl) ?_|refine zc (zo 7 rfl rfl) ?_|refine zc (zm 0 rfl rfl) ?_|refine zc (zm 1 rfl rfl) ?_|refine zc (zm 2 rfl rfl) ?_|refine zc (zm 3 rfl rfl) ?_|refine zc (zm 4 rfl rfl) ?_|refine zc (zm 5 rfl rfl) ?_|refine zc (zm 6 rfl rfl) ?_|refine zc (zm 7 rfl rfl) ?_))) ?_)
    (repeat (first|refine yG (yN ?_)|refine yG (yD 0 rfl rfl rfl rfl rfl ?_)))
    exact VC.ret (fin 0 ((atI (logRun R.log).2 (lastR R.log f.client).2).getD resZ) R.adm rfl rfl rfl rfl (by rw [judgeM, if_neg k1, if_neg k2, if_neg k3, if_neg k4, if_neg k5, if_neg k6, if_neg k7, if_pos h8]))
  (repeat (first|refine zS ?_|refine zR ?_|refine zB ?_|refine zL ?_|refine zC ?_|refine zG (zN ?_)|refine zG (zD 0 rfl rfl rfl rfl ?_)|refine zG (zD 1 rfl rfl rfl rfl ?_)|refine zG (zD 2 rfl rfl rfl rfl ?_)|refine zG (zD 3 rfl rfl rfl rfl ?_)|refine zG (zD 4 rfl rfl rfl rfl ?_)|refine zG (zD 5 rfl rfl rfl rfl ?_)|refine zG (zD 6 rfl rfl rfl rfl ?_)|refine zG (zD 7 rfl rfl rfl rfl ?_)))
  refine VC.condP rfl (fun h9 => ?_) (fun h9 => ?_)
  · refine VC.seq (VC.draw (ts 0 2 (.only 2 .nil)) (by kernel_rfl) (by decide +kernel) ?_)
    refine VA.go (VA.ldA 6 (resC resZ) rfl rfl rfl rfl rfl ?_)
    (repeat (first|refine yG (yN ?_)|refine yG (yD 0 rfl rfl rfl rfl rfl ?_)))
    refine VA.go (VA.stA (vs := resC resZ) 6 rfl rfl rfl rfl rfl (Nat.le_refl _) rfl rfl rfl (by (try refine Pd.st ?_);(repeat (first|exact Pd.nil|exact Pd.fnil|refine Pd.inner ?_|refine Pd.skip (by decide +kernel) ?_|refine zf (zo 0 rfl rfl) ?_|refine zf (zo 1 rfl rfl) ?_|refine zf (zo 2 rfl rfl) ?_|refine zf (zo 3 rfl rfl) ?_|refine zf (zo 4 rfl rfl) ?_|refine zf (zo 5 rfl rfl) ?_|refine zf (zo 6 rfl rfl) ?_|refine zf (zo 7 rfl rfl) ?_|refine zf (zm 0 rfl rfl) ?_|refine zf (zm 1 rfl rfl) ?_|refine zf (zm 2 rfl rfl) ?_|refine zf (zm 3 rfl rfl) ?_|refine zf (zm 4 rfl rfl) ?_|refine zf (zm 5 rfl rfl) ?_|refine zf (zm 6 rfl rfl) ?_|refine zf (zm 7 rfl rfl) ?_|refine zc (zo 0 rfl rfl) ?_|refine zc (zo 1 rfl rfl) ?_|refine zc (zo 2 rfl rfl) ?_|refine zc (zo 3 rfl rfl) ?_|refine zc (zo 4 rfl rfl) ?_|refine zc (zo 5 rfl rfl) ?_|refine zc (zo 6 rfl rfl) ?_|refine zc (zo 7 rfl rfl) ?_|refine zc (zm 0 rfl rfl) ?_|refine zc (zm 1 rfl rfl) ?_|refine zc (zm 2 rfl rfl) ?_|refine zc (zm 3 rfl rfl) ?_|refine zc (zm 4 rfl rfl) ?_|refine zc (zm 5 rfl rfl) ?_|refine zc (zm 6 rfl rfl) ?_|refine zc (zm 7 rfl rfl) ?_))) ?_)
    (repeat (first|refine yG (yN ?_)|refine yG (yD 0 rfl rfl rfl rfl rfl ?_)))
    exact VC.ret (fin 7 resZ R.adm rfl rfl rfl rfl (by rw [judgeM, if_neg k1, if_neg k2, if_neg k3, if_neg k4, if_neg k5, if_neg k6, if_neg k7, if_neg h8, if_pos h9]))
  (repeat (first|refine zS ?_|refine zR ?_|refine zB ?_|refine zL ?_|refine zC ?_|refine zG (zN ?_)|refine zG (zD 0 rfl rfl rfl rfl ?_)))
  refine VO.go (VO.callV' (fun Fr w hF hs hS => Lg.len_spec Fr w (hS.at_ 2 rfl)) rfl ?_)
  (repeat (first|refine zS ?_|refine zR ?_|refine zB ?_|refine zL ?_|refine zC ?_|refine zG (zN ?_)|refine zG (zD 0 rfl rfl rfl rfl ?_)))
  refine VC.condP rfl (fun h10 => ?_) (fun h10 => VC.skip ?_)
  · refine VC.seq (VC.draw (ts 0 2 (.only 2 .nil)) (by kernel_rfl) (by decide +kernel) ?_)
    refine VA.go (VA.ldA 6 (resC resZ) rfl rfl rfl rfl rfl ?_)
    (repeat (first|refine yG (yN ?_)|refine yG (yD 0 rfl rfl rfl rfl rfl ?_)))
    refine VA.go (VA.stA (vs := resC resZ) 6 rfl rfl rfl rfl rfl (Nat.le_refl _) rfl rfl rfl (by (try refine Pd.st ?_);(repeat (first|exact Pd.nil|exact Pd.fnil|refine Pd.inner ?_|refine Pd.skip (by decide +kernel) ?_|refine zf (zo 0 rfl rfl) ?_|refine zf (zo 1 rfl rfl) ?_|refine zf (zo 2 rfl rfl) ?_|refine zf (zo 3 rfl rfl) ?_|refine zf (zo 4 rfl rfl) ?_|refine zf (zo 5 rfl rfl) ?_|refine zf (zo 6 rfl rfl) ?_|refine zf (zo 7 rfl rfl) ?_|refine zf (zm 0 rfl rfl) ?_|refine zf (zm 1 rfl rfl) ?_|refine zf (zm 2 rfl rfl) ?_|refine zf (zm 3 rfl rfl) ?_|refine zf (zm 4 rfl rfl) ?_|refine zf (zm 5 rfl rfl) ?_|refine zf (zm 6 rfl rfl) ?_|refine zf (zm 7 rfl rfl) ?_|refine zc (zo 0 rfl rfl) ?_|refine zc (zo 1 rfl rfl) ?_|refine zc (zo 2 rfl rfl) ?_|refine zc (zo 3 rfl rfl) ?_|refine zc (zo 4 rfl rfl) ?_|refine zc (zo 5 rfl rfl) ?_|refine zc (zo 6 rfl rfl) ?_|refine zc (zo 7 rfl rfl) ?_|refine zc (zm 0 rfl rfl) ?_|refine zc (zm 1 rfl rfl) ?_|refine zc (zm 2 rfl rfl) ?_|refine zc (zm 3 rfl rfl) ?_|refine zc (zm 4 rfl rfl) ?_|refine zc (zm 5 rfl rfl) ?_|refine zc (zm 6 rfl rfl) ?_|refine zc (zm 7 rfl rfl) ?_))) ?_)
    (repeat (first|refine yG (yN ?_)|refine yG (yD 0 rfl rfl rfl rfl rfl ?_)))
    exact VC.ret (fin 1 resZ R.adm rfl rfl rfl rfl (by rw [judgeM, if_neg k1, if_neg k2, if_neg k3, if_neg k4, if_neg k5, if_neg k6, if_neg k7, if_neg h8, if_neg h9, if_pos (by omega)]))
  refine VC.seq (VC.draw (ts 0 6 (.take 7 (.only 6 (.take 8 (.only 9 .nil))))) (by kernel_rfl) (by decide +kernel) ?_)
  (repeat (first|refine yG (yN ?_)|refine yG (yD 0 rfl rfl rfl rfl rfl ?_)|refine yG (yD 1 rfl rfl rfl rfl rfl ?_)|refine yG (yD 2 rfl rfl rfl rfl rfl ?_)|refine yG (yD 3 rfl rfl rfl rfl rfl ?_)|refine yG (yD 4 rfl rfl rfl rfl rfl ?_)|refine yG (yD 5 rfl rfl rfl rfl rfl ?_)|refine yG (yD 6 rfl rfl rfl rfl rfl ?_)|refine yG (yD 7 rfl rfl rfl rfl rfl ?_)))
  refine VA.go (VA.ldA 7 (fmc (f, m)) rfl rfl rfl rfl rfl ?_)
  (repeat (first|refine yG (yN ?_)|refine yG (yD 0 rfl rfl rfl rfl rfl ?_)))
  refine VA.go (VA.ldA 6 (resC resZ) rfl rfl rfl rfl rfl ?_)
  refine VA.go (VA.callAt 4 rfl (fun Fr w hF hs hS => offer_spec Fr w x.ap R.adm (f, m) now) rfl rfl (ψ := fun v H => v = .int .i64 (R.adm.offerM f now).1 ∧ H = admH x.ap (R.adm.offerM f now).2) (fun v L h => ⟨_, h.2, h.1, rfl⟩) ?_ ?_)
  · rintro _ _ ⟨rfl, rfl⟩
    exact (by (try refine Pd.st ?_);(repeat (first|exact Pd.nil|exact Pd.fnil|refine Pd.inner ?_|refine Pd.skip (by decide +kernel) ?_|refine zf (zo 0 rfl rfl) ?_|refine zf (zo 1 rfl rfl) ?_|refine zf (zo 2 rfl rfl) ?_|refine zf (zo 3 rfl rfl) ?_|refine zf (zo 4 rfl rfl) ?_|refine zf (zo 5 rfl rfl) ?_|refine zf (zo 6 rfl rfl) ?_|refine zf (zo 7 rfl rfl) ?_|refine zf (zm 0 rfl rfl) ?_|refine zf (zm 1 rfl rfl) ?_|refine zf (zm 2 rfl rfl) ?_|refine zf (zm 3 rfl rfl) ?_|refine zf (zm 4 rfl rfl) ?_|refine zf (zm 5 rfl rfl) ?_|refine zf (zm 6 rfl rfl) ?_|refine zf (zm 7 rfl rfl) ?_|refine zc (zo 0 rfl rfl) ?_|refine zc (zo 1 rfl rfl) ?_|refine zc (zo 2 rfl rfl) ?_|refine zc (zo 3 rfl rfl) ?_|refine zc (zo 4 rfl rfl) ?_|refine zc (zo 5 rfl rfl) ?_|refine zc (zo 6 rfl rfl) ?_|refine zc (zo 7 rfl rfl) ?_|refine zc (zm 0 rfl rfl) ?_|refine zc (zm 1 rfl rfl) ?_|refine zc (zm 2 rfl rfl) ?_|refine zc (zm 3 rfl rfl) ?_|refine zc (zm 4 rfl rfl) ?_|refine zc (zm 5 rfl rfl) ?_|refine zc (zm 6 rfl rfl) ?_|refine zc (zm 7 rfl rfl) ?_)))
  rintro _ _ ⟨rfl, rfl⟩
  (repeat (first|refine yG (yN ?_)|refine yG (yD 0 rfl rfl rfl rfl rfl ?_)))
  refine VA.go (VA.stA (vs := resC resZ) 6 rfl rfl rfl rfl rfl (Nat.le_refl _) rfl rfl rfl (by (try refine Pd.st ?_);(repeat (first|exact Pd.nil|exact Pd.fnil|refine Pd.inner ?_|refine Pd.skip (by decide +kernel) ?_|refine zf (zo 0 rfl rfl) ?_|refine zf (zo 1 rfl rfl) ?_|refine zf (zo 2 rfl rfl) ?_|refine zf (zo 3 rfl rfl) ?_|refine zf (zo 4 rfl rfl) ?_|refine zf (zo 5 rfl rfl) ?_|refine zf (zo 6 rfl rfl) ?_|refine zf (zo 7 rfl rfl) ?_|refine zf (zm 0 rfl rfl) ?_|refine zf (zm 1 rfl rfl) ?_|refine zf (zm 2 rfl rfl) ?_|refine zf (zm 3 rfl rfl) ?_|refine zf (zm 4 rfl rfl) ?_|refine zf (zm 5 rfl rfl) ?_|refine zf (zm 6 rfl rfl) ?_|refine zf (zm 7 rfl rfl) ?_|refine zc (zo 0 rfl rfl) ?_|refine zc (zo 1 rfl rfl) ?_|refine zc (zo 2 rfl rfl) ?_|refine zc (zo 3 rfl rfl) ?_|refine zc (zo 4 rfl rfl) ?_|refine zc (zo 5 rfl rfl) ?_|refine zc (zo 6 rfl rfl) ?_|refine zc (zo 7 rfl rfl) ?_|refine zc (zm 0 rfl rfl) ?_|refine zc (zm 1 rfl rfl) ?_|refine zc (zm 2 rfl rfl) ?_|refine zc (zm 3 rfl rfl) ?_|refine zc (zm 4 rfl rfl) ?_|refine zc (zm 5 rfl rfl) ?_|refine zc (zm 6 rfl rfl) ?_|refine zc (zm 7 rfl rfl) ?_))) ?_)
  (repeat (first|refine yG (yN ?_)|refine yG (yD 0 rfl rfl rfl rfl rfl ?_)))
  exact VC.ret (fin (R.adm.offerM f now).1 resZ (R.adm.offerM f now).2 rfl rfl rfl rfl (by rw [judgeM, if_neg k1, if_neg k2, if_neg k3, if_neg k4, if_neg k5, if_neg k6, if_neg k7, if_neg h8, if_neg h9, if_neg (by omega)]))
end
end Go.Proofs.YtbbnmgakmcppdaaGreat.Rep
namespace Go.Proofs.YtbbnmgakmcppdaaGreat.Rep
open Go Go.Proofs.YtbbnmgakmcppdaaGreat.Vg Go.Proofs.YtbbnmgakmcppdaaGreat.T Go.Proofs.YtbbnmgakmcppdaaGreat.Api Go.Proofs.YtbbnmgakmcppdaaGreat.Kv Go.Proofs.YtbbnmgakmcppdaaGreat.Ch Go.Proofs.YtbbnmgakmcppdaaGreat.Lg Go.Proofs.YtbbnmgakmcppdaaGreat.Rd Go.Proofs.YtbbnmgakmcppdaaGreat.Win Go.Proofs.YtbbnmgakmcppdaaGreat.Adm
set_option linter.unusedSimpArgs false
set_option linter.unusedVariables false
attribute [local irreducible] VO VC VA

def updateR (R : RepM) (f : FrameM) (now : Int) : RepM × List SndM :=
  if (judgeM R f now).2.1.code ≠ 0 then ({ R with adm := (judgeM R f now).2.2 }, [(32 + f.client, replyF f.client f.seq f.try_ (judgeM R f now).2.1)])
  else if (judgeM R f now).1 = 0 then ({ R with adm := (judgeM R f now).2.2 }, [])
  else if (judgeM R f now).1 ≠ 6 ∧ (judgeM R f now).1 ≠ 10 then ({ R with adm := ((judgeM R f now).2.2.barM f.client f.seq f.try_).2 }, [(32 + f.client, refuseF R.ch.epoch f (judgeM R f now).1)])
  else ({ R with adm := (judgeM R f now).2.2 }, [(32 + f.client, refuseF R.ch.epoch f (judgeM R f now).1)])
section
variable {p : Nat} {R : RepM} {b : Nat} {S : List SndM}
set_option maxRecDepth 100000 in
set_option maxHeartbeats 4000000 in
theorem update_spec (Fr : Nat → Prop) (w : World) (ok : R.Ok) (hS : S.length ≤ 900000) (f : FrameM) (m : MemS) (now : Int) (hc0 : 0 ≤ f.client) (hc1 : f.client ≤ 1000) : Tri Tryz.prog 59 [.pointer (some ⟨p, 0, none⟩), .agg (fmc (f, m)).toArray, .int .i64 now, sendF b] Fr w [repH p R, outH b S]
    (fun v L => v = .tuple #[] ∧ L = [repH p (updateR R f now).1, outH b (S ++ (updateR R f now).2)]) := by
  refine Tri.of 53 Tryz.func59 rfl (by kernel_rfl) tabOk rfl rfl ?_
  refine VC.seq (VC.region (VO.go (VO.boxA (vs := fmc (f, m)) rfl fun fb => ?_)))
  (repeat (first|refine zS ?_|refine zR ?_|refine zB ?_|refine zL ?_|refine zC ?_|refine zG (zN ?_)|refine zG (zD 0 rfl rfl rfl rfl ?_)))
  refine VO.go (VO.ldA 0 (fmc (f, m)) rfl rfl rfl rfl ?_)
  refine VO.go (VO.callAt 1 rfl (fun Fr w hF hs hS => judge_spec Fr w ok f m now) rfl (ψ := fun v H => v = .tuple #[.int .i64 (judgeM R f now).1, .agg (resC (judgeM R f now).2.1).toArray] ∧ H = repH p { R with adm := (judgeM R f now).2.2 }) (fun v L h => ⟨_, h.2, h.1, rfl⟩) ?_)
  rintro _ _ ⟨rfl, rfl⟩
  refine VO.opn 1 rfl (HOpn.rep p _) ?_
  rintro x -
  obtain ⟨⟨z, rr, A⟩, hj⟩ : ∃ j, judgeM R f now = j := ⟨_, rfl⟩
  rw [hj]
  have hu : updateR R f now = (if rr.code ≠ 0 then ({ R with adm := A }, [(32 + f.client, replyF f.client f.seq f.try_ rr)])
      else if z = 0 then ({ R with adm := A }, [])
      else if z ≠ 6 ∧ z ≠ 10 then ({ R with adm := (A.barM f.client f.seq f.try_).2 }, [(32 + f.client, refuseF R.ch.epoch f z)])
      else ({ R with adm := A }, [(32 + f.client, refuseF R.ch.epoch f z)])) := by rw [updateR, hj]
  show VO _ _ _ _ _ [pt p (repCs R x) repT, slH memT 2 x.a R.ch.ms.length x.c (flat memC R.ch.ms), logH x.lp R.log, winH x.wp R.win, admH x.ap A, rdsH x.rp R.rds, pt fb (fmc (f, m)) frT, outH b S] _
  (repeat (first|refine zS ?_|refine zR ?_|refine zB ?_|refine zL ?_|refine zC ?_|refine zG (zN ?_)|refine zG (zD 0 rfl rfl rfl rfl ?_)))
  refine VO.go (VO.alloc rfl fun rb => ?_)
  (repeat (first|refine zS ?_|refine zR ?_|refine zB ?_|refine zL ?_|refine zC ?_|refine zG (zN ?_)|refine zG (zD 0 rfl rfl rfl rfl ?_)))
  refine VO.go (VO.stA (vs := resC rr) 0 rfl rfl rfl rfl (Nat.le_refl _) rfl rfl rfl ?_)
  (repeat (first|refine zS ?_|refine zR ?_|refine zB ?_|refine zL ?_|refine zC ?_|refine zG (zN ?_)|refine zG (zD 0 rfl rfl rfl rfl ?_)))
  refine VC.condNE rfl (fun h1 => ?_) (fun h1 => VC.skip ?_)
  · (repeat (first|refine zS ?_|refine zR ?_|refine zB ?_|refine zL ?_|refine zC ?_|refine zG (zN ?_)|refine zG (zD 0 rfl rfl rfl rfl ?_)|refine zG (zD 1 rfl rfl rfl rfl ?_)|refine zG (zD 2 rfl rfl rfl rfl ?_)|refine zG (zD 3 rfl rfl rfl rfl ?_)|refine zG (zD 4 rfl rfl rfl rfl ?_)|refine zG (zD 5 rfl rfl rfl rfl ?_)|refine zG (zD 6 rfl rfl rfl rfl ?_)|refine zG (zD 7 rfl rfl rfl rfl ?_)))
    refine VO.go (VO.ldA 0 (resC rr) rfl rfl rfl rfl ?_)
    refine VO.go (VO.callAt 8 rfl (fun Fr w hF hs _ => reply_spec Fr w (by omega) f.client f.seq f.try_ hc0 (by omega) rr) rfl (ψ := fun v H => v = .tuple #[] ∧ H = outH b (S ++ [(32 + f.client, replyF f.client f.seq f.try_ rr)])) (fun v L h => ⟨_, h.2, h.1, rfl⟩) ?_)
    rintro _ _ ⟨rfl, rfl⟩
    (repeat (first|refine zS ?_|refine zR ?_|refine zB ?_|refine zL ?_|refine zC ?_|refine zG (zN ?_)|refine zG (zD 0 rfl rfl rfl rfl ?_)))
    exact VC.ret (Ret.void rfl (Imp.rep (R := { R with adm := A }) x (Imp.pick 1 rfl (Imp.pick 1 rfl (Imp.pick 1 rfl (Imp.pick 1 rfl (Imp.pick 1 rfl (Imp.pick 1 rfl (Imp.pick 2 rfl Imp.nil)))))))).ent ⟨rfl, by rw [hu, if_pos h1]⟩)
  (repeat (first|refine zS ?_|refine zR ?_|refine zB ?_|refine zL ?_|refine zC ?_|refine zG (zN ?_)|refine zG (zD 0 rfl rfl rfl rfl ?_)))
  refine VC.condE rfl (fun h2 => ?_) (fun h2 => VC.skip ?_)
  · exact VC.ret (Ret.void rfl (Imp.rep (R := { R with adm := A }) x (Imp.pick 1 rfl (Imp.pick 1 rfl (Imp.pick 1 rfl (Imp.pick 1 rfl (Imp.pick 1 rfl (Imp.pick 1 rfl (Imp.pick 2 rfl Imp.nil)))))))).ent ⟨rfl, by rw [hu, if_neg (fun h => h h1), if_pos h2, List.append_nil]⟩)
  refine VC.seq ?_
  refine VC.meetS (σ := AdmM) (fun _ => [(0, .pointer (some ⟨p, 0, none⟩)), (3, sendF b), (5, .pointer (some ⟨fb, 0, none⟩)), (8, .int .i64 z)])
    (fun A' => [pt p (repCs R x) repT, slH memT 2 x.a R.ch.ms.length x.c (flat memC R.ch.ms), logH x.lp R.log, winH x.wp R.win, admH x.ap A', rdsH x.rp R.rds, pt fb (fmc (f, m)) frT, outH b S]) (fun A' => A' = if z ≠ 6 ∧ z ≠ 10 then (A.barM f.client f.seq f.try_).2 else A) ?_ ?_
  · (repeat (first|refine zS ?_|refine zR ?_|refine zB ?_|refine zL ?_|refine zC ?_|refine zG (zN ?_)|refine zG (zD 0 rfl rfl rfl rfl ?_)))
    by_cases h3 : z = 6
    · refine VO.go (VO.yes 33 false rfl (by simp [h3]) ?_)
      (repeat (first|refine zS ?_|refine zR ?_|refine zB ?_|refine zL ?_|refine zC ?_|refine zG (zN ?_)|refine zG (zD 0 rfl rfl rfl rfl ?_)|refine zG (zU rfl rfl rfl ?_)))
      refine VC.condF rfl (VC.skip ?_)
      exact ⟨A, by rw [if_neg (fun h => h.1 h3)], Sub.cons rfl (Sub.cons rfl (Sub.cons rfl (Sub.cons rfl (Sub.nil _)))), (Imp.pick 1 rfl (Imp.pick 1 rfl (Imp.pick 1 rfl (Imp.pick 1 rfl (Imp.pick 1 rfl (Imp.pick 1 rfl (Imp.pick 1 rfl (Imp.pick 1 rfl Imp.nil)))))))).ent⟩
    · refine VO.go (VO.yes 33 true rfl (by simp [h3]) ?_)
      (repeat (first|refine zS ?_|refine zR ?_|refine zB ?_|refine zL ?_|refine zC ?_|refine zG (zN ?_)|refine zG (zD 0 rfl rfl rfl rfl ?_)|refine zG (zU rfl rfl rfl ?_)))
      refine VC.condNE rfl (fun h4 => ?_) (fun h4 => VC.skip ?_)
      · refine VC.draw (ts 0 10 (.only 10 .nil)) (by kernel_rfl) (by decide +kernel) ?_
        (repeat (first|refine yG (yN ?_)|refine yG (yD 0 rfl rfl rfl rfl rfl ?_)|refine yG (yD 1 rfl rfl rfl rfl rfl ?_)|refine yG (yD 2 rfl rfl rfl rfl rfl ?_)|refine yG (yD 3 rfl rfl rfl rfl rfl ?_)|refine yG (yD 4 rfl rfl rfl rfl rfl ?_)|refine yG (yD 5 rfl rfl rfl rfl rfl ?_)|refine yG (yD 6 rfl rfl rfl rfl rfl ?_)|refine yG (yD 7 rfl rfl rfl rfl rfl ?_)))
        refine VA.go (VA.callAt 5 rfl (fun Fr w hF hs hS => bar_spec Fr w x.ap A f.client f.seq f.try_) rfl rfl (ψ := fun v H => v = .int .i64 (A.barM f.client f.seq f.try_).1 ∧ H = admH x.ap (A.barM f.client f.seq f.try_).2) (fun v L h => ⟨_, h.2, h.1, rfl⟩) ?_ ?_)
        · rintro _ _ ⟨rfl, rfl⟩
          exact (by (try refine Pd.st ?_);(repeat (first|exact Pd.nil|exact Pd.fnil|refine Pd.inner ?_|refine Pd.skip (by decide +kernel) ?_|refine zf (zo 0 rfl rfl) ?_|refine zf (zo 1 rfl rfl) ?_|refine zf (zo 2 rfl rfl) ?_|refine zf (zo 3 rfl rfl) ?_|refine zf (zo 4 rfl rfl) ?_|refine zf (zo 5 rfl rfl) ?_|refine zf (zo 6 rfl rfl) ?_|refine zf (zo 7 rfl rfl) ?_|refine zf (zm 0 rfl rfl) ?_|refine zf (zm 1 rfl rfl) ?_|refine zf (zm 2 rfl rfl) ?_|refine zf (zm 3 rfl rfl) ?_|refine zf (zm 4 rfl rfl) ?_|refine zf (zm 5 rfl rfl) ?_|refine zf (zm 6 rfl rfl) ?_|refine zf (zm 7 rfl rfl) ?_|refine zc (zo 0 rfl rfl) ?_|refine zc (zo 1 rfl rfl) ?_|refine zc (zo 2 rfl rfl) ?_|refine zc (zo 3 rfl rfl) ?_|refine zc (zo 4 rfl rfl) ?_|refine zc (zo 5 rfl rfl) ?_|refine zc (zo 6 rfl rfl) ?_|refine zc (zo 7 rfl rfl) ?_|refine zc (zm 0 rfl rfl) ?_|refine zc (zm 1 rfl rfl) ?_|refine zc (zm 2 rfl rfl) ?_|refine zc (zm 3 rfl rfl) ?_|refine zc (zm 4 rfl rfl) ?_|refine zc (zm 5 rfl rfl) ?_|refine zc (zm 6 rfl rfl) ?_|refine zc (zm 7 rfl rfl) ?_)))
        rintro _ _ ⟨rfl, rfl⟩
        (repeat (first|refine yG (yN ?_)|refine yG (yD 0 rfl rfl rfl rfl rfl ?_)))
        exact ⟨(A.barM f.client f.seq f.try_).2, by rw [if_pos ⟨h3, h4⟩], Sub.cons rfl (Sub.cons rfl (Sub.cons rfl (Sub.cons rfl (Sub.nil _)))), (Imp.pick 1 rfl (Imp.pick 1 rfl (Imp.pick 1 rfl (Imp.pick 1 rfl (Imp.pick 1 rfl (Imp.pick 1 rfl (Imp.pick 1 rfl (Imp.pick 1 rfl Imp.nil)))))))).ent⟩
      · exact ⟨A, by rw [if_neg (fun h => h.2 h4)], Sub.cons rfl (Sub.cons rfl (Sub.cons rfl (Sub.cons rfl (Sub.nil _)))), (Imp.pick 1 rfl (Imp.pick 1 rfl (Imp.pick 1 rfl (Imp.pick 1 rfl (Imp.pick 1 rfl (Imp.pick 1 rfl (Imp.pick 1 rfl (Imp.pick 1 rfl Imp.nil)))))))).ent⟩
  rintro A' hA'
  (repeat (first|refine zS ?_|refine zR ?_|refine zB ?_|refine zL ?_|refine zC ?_|refine zG (zN ?_)|refine zG (zD 0 rfl rfl rfl rfl ?_)))
  refine VO.go (VO.ldA 6 (fmc (f, m)) rfl rfl rfl rfl ?_)
  (repeat (first|refine zS ?_|refine zR ?_|refine zB ?_|refine zL ?_|refine zC ?_|refine zG (zN ?_)|refine zG (zD 0 rfl rfl rfl rfl ?_)))
  refine VO.go (VO.callAt 7 rfl (fun Fr w hF hs hS => refuse_spec Fr w (hS.blk 0 rfl) (by omega) f (m.1, 0, m.2) hc0 (by omega) z) rfl (ψ := fun v H => v = .tuple #[] ∧ H = outH b (S ++ [(32 + f.client, refuseF R.ch.epoch f z)])) (fun v L h => ⟨_, h.2, h.1, rfl⟩) ?_)
  rintro _ _ ⟨rfl, rfl⟩
  (repeat (first|refine zS ?_|refine zR ?_|refine zB ?_|refine zL ?_|refine zC ?_|refine zG (zN ?_)|refine zG (zD 0 rfl rfl rfl rfl ?_)))
  exact Ret.void rfl (Imp.rep (R := { R with adm := A' }) x (Imp.pick 0 rfl (Imp.pick 0 rfl (Imp.pick 0 rfl (Imp.pick 0 rfl (Imp.pick 0 rfl (Imp.pick 0 rfl (Imp.pick 1 rfl Imp.nil)))))))).ent ⟨rfl, by
    rw [hu, if_neg (fun h => h h1), if_neg h2, hA']
    split <;> rfl⟩
def readReason (R : RepM) (f : FrameM) (now : Int) : Int :=
  if R.knownB f = false then 5 else if R.tailB = false then 4 else if R.whole = false then 8 else if f.deadline < now then 2 else if R.most ≤ R.rds.l.length then 1 else 0
def confirmF (epoch id : Int) : FrameM := { FrameM.zero with kind := 9, epoch := epoch, index := id }
def readR (R : RepM) (f : FrameM) (now : Int) : RepM × List SndM :=
  if readReason R f now ≠ 0 then (R, [(32 + f.client, refuseF R.ch.epoch f (readReason R f now))])
  else ({ R with rds := R.rds.put f (kvLook (logRun R.log).1 f.op.key R.log.length) }, [(16, confirmF R.ch.epoch (R.rds.last + 1))])
set_option maxRecDepth 100000 in
set_option maxHeartbeats 4000000 in
theorem read_spec (Fr : Nat → Prop) (w : World) (ok : R.Ok) (hmost : R.most = R.rds.cap) (hS : S.length ≤ 900000) (f : FrameM) {ma : Option Addr} {mc : Nat} {ms : List MemM} (hm : RwIn memC 2 Fr w ma ms) (hml : ms.length ≤ 1000000) (now : Int) (hc0 : 0 ≤ f.client) (hc1 : f.client ≤ 1000) : Tri Tryz.prog 58 [.pointer (some ⟨p, 0, none⟩), .agg (fgC f (ma, ms.length, mc)).toArray, .int .i64 now, sendF b] Fr w [repH p R, outH b S]
    (fun v L => v = .tuple #[] ∧ L = [repH p (readR R f now).1, outH b (S ++ (readR R f now).2)]) := by
  refine Tri.of 75 Tryz.func58 rfl (by kernel_rfl) tabOk rfl rfl ?_
  refine VC.seq (VC.region (VO.go (VO.boxA (vs := fgC f (ma, ms.length, mc)) rfl fun fb => VO.go (VO.nil ?_))))
  refine VC.opn 1 rfl (HOpn.rep p R) ?_
  rintro x -
  show VC _ _ _ [pt p (repCs R x) repT, slH memT 2 x.a R.ch.ms.length x.c (flat memC R.ch.ms), logH x.lp R.log, winH x.wp R.win, admH x.ap R.adm, rdsH x.rp R.rds, pt fb (fgC f (ma, ms.length, mc)) frT, outH b S] _
  have hlen : R.rds.l.length ≤ 16 := by have := ok.rl; have := ok.rc1; omega
  refine VC.seq (VC.region (VO.go (VO.nil (VC.seq ?_))))
  have S4 : ∀ {E : Env} {z : Int}, Vg.look E 8 = some (.int .i64 z) → z = readReason R f now → Vg.look E 0 = some (.pointer (some ⟨p, 0, none⟩)) → Vg.look E 3 = some (sendF b) → Vg.look E 5 = some (.pointer (some ⟨fb, 0, none⟩)) → Sub [(0, .pointer (some ⟨p, 0, none⟩)), (3, sendF b), (5, .pointer (some ⟨fb, 0, none⟩)), (8, .int .i64 (readReason R f now))] E := fun h0 h1 h2 h3 h4 => Sub.cons h2 (Sub.cons h3 (Sub.cons h4 (Sub.int h0 h1 (Sub.nil _))))
  refine VC.meetS (σ := Unit) (fun _ => [(0, .pointer (some ⟨p, 0, none⟩)), (3, sendF b), (5, .pointer (some ⟨fb, 0, none⟩)), (8, .int .i64 (readReason R f now))])
    (fun _ => [pt p (repCs R x) repT, slH memT 2 x.a R.ch.ms.length x.c (flat memC R.ch.ms), logH x.lp R.log, winH x.wp R.win, admH x.ap R.adm, rdsH x.rp R.rds, pt fb (fgC f (ma, ms.length, mc)) frT, outH b S]) (fun _ => True) ?_ ?_
  · refine VC.block ?_
    (repeat (first|refine zS ?_|refine zR ?_|refine zB ?_|refine zL ?_|refine zC ?_|refine zG (zN ?_)|refine zG (zD 0 rfl rfl rfl rfl ?_)))
    refine VO.go (VO.ldA 6 (fgC f (ma, ms.length, mc)) rfl rfl rfl rfl ?_)
    refine VO.go (VO.callV' (fun Fr w hF hs hS => known_spec Fr w (hS.blk 0 rfl) f _) rfl ?_)
    (repeat (first|refine zS ?_|refine zR ?_|refine zB ?_|refine zL ?_|refine zC ?_|refine zG (zN ?_)|refine zG (zD 0 rfl rfl rfl rfl ?_)))
    refine VC.condN rfl (fun h1 => ?_) (fun h1 => ?_)
    · (repeat (first|refine zS ?_|refine zR ?_|refine zB ?_|refine zL ?_|refine zC ?_|refine zG (zN ?_)|refine zG (zD 0 rfl rfl rfl rfl ?_)))
      exact ⟨(), trivial, S4 rfl (by rw [readReason, if_pos h1]) rfl rfl rfl, Ent.refl⟩
    have k1 : ¬ R.knownB f = false := by rw [h1]; simp
    (repeat (first|refine zS ?_|refine zR ?_|refine zB ?_|refine zL ?_|refine zC ?_|refine zG (zN ?_)|refine zG (zD 0 rfl rfl rfl rfl ?_)))
    refine VO.go (VO.callV' (fun Fr w hF hs hS => tail_spec Fr w (hS.blk 0 rfl) (RwIn.slH memC_len (hS.at_ 1 rfl)) ok.ch) rfl ?_)
    (repeat (first|refine zS ?_|refine zR ?_|refine zB ?_|refine zL ?_|refine zC ?_|refine zG (zN ?_)|refine zG (zD 0 rfl rfl rfl rfl ?_)))
    refine VC.condN rfl (fun h2 => ?_) (fun h2 => ?_)
    · (repeat (first|refine zS ?_|refine zR ?_|refine zB ?_|refine zL ?_|refine zC ?_|refine zG (zN ?_)|refine zG (zD 0 rfl rfl rfl rfl ?_)))
      exact ⟨(), trivial, S4 rfl (by rw [readReason, if_neg k1, if_pos h2]) rfl rfl rfl, Ent.refl⟩
    have k2 : ¬ R.tailB = false := by rw [h2]; simp
    (repeat (first|refine zS ?_|refine zR ?_|refine zB ?_|refine zL ?_|refine zC ?_|refine zG (zN ?_)|refine zG (zD 0 rfl rfl rfl rfl ?_)))
    refine VC.condN rfl (fun h3 => ?_) (fun h3 => ?_)
    · (repeat (first|refine zS ?_|refine zR ?_|refine zB ?_|refine zL ?_|refine zC ?_|refine zG (zN ?_)|refine zG (zD 0 rfl rfl rfl rfl ?_)))
      exact ⟨(), trivial, S4 rfl (by rw [readReason, if_neg k1, if_neg k2, if_pos h3]) rfl rfl rfl, Ent.refl⟩
    have k3 : ¬ R.whole = false := by rw [h3]; simp
    (repeat (first|refine zS ?_|refine zR ?_|refine zB ?_|refine zL ?_|refine zC ?_|refine zG (zN ?_)|refine zG (zD 0 rfl rfl rfl rfl ?_)|refine zG (zD 1 rfl rfl rfl rfl ?_)|refine zG (zD 2 rfl rfl rfl rfl ?_)|refine zG (zD 3 rfl rfl rfl rfl ?_)|refine zG (zD 4 rfl rfl rfl rfl ?_)|refine zG (zD 5 rfl rfl rfl rfl ?_)|refine zG (zD 6 rfl rfl rfl rfl ?_)))
    refine VC.condP rfl (fun h4 => ?_) (fun h4 => ?_)
    · (repeat (first|refine zS ?_|refine zR ?_|refine zB ?_|refine zL ?_|refine zC ?_|refine zG (zN ?_)|refine zG (zD 0 rfl rfl rfl rfl ?_)))
      exact ⟨(), trivial, S4 rfl (by rw [readReason, if_neg k1, if_neg k2, if_neg k3, if_pos h4]) rfl rfl rfl, Ent.refl⟩
    refine VC.seq (VC.draw (ts 0 4 (ts 5 4 (.only 4 (ts 9 2 .nil)))) (by kernel_rfl) (by decide +kernel) ?_)
    (repeat (first|refine yG (yN ?_)|refine yG (yD 0 rfl rfl rfl rfl rfl ?_)|refine yG (yD 1 rfl rfl rfl rfl rfl ?_)|refine yG (yD 2 rfl rfl rfl rfl rfl ?_)|refine yG (yD 3 rfl rfl rfl rfl rfl ?_)|refine yG (yD 4 rfl rfl rfl rfl rfl ?_)|refine yG (yD 5 rfl rfl rfl rfl rfl ?_)|refine yG (yD 6 rfl rfl rfl rfl rfl ?_)))
    refine VA.go (VA.callR (fun Fr w hF hs hS => Rd.len_spec Fr w (hS.at_ 5 rfl) ok.rc0) rfl rfl (by (try refine Pd.st ?_);(repeat (first|exact Pd.nil|exact Pd.fnil|refine Pd.inner ?_|refine Pd.skip (by decide +kernel) ?_|refine zf (zo 0 rfl rfl) ?_|refine zf (zo 1 rfl rfl) ?_|refine zf (zo 2 rfl rfl) ?_|refine zf (zo 3 rfl rfl) ?_|refine zf (zo 4 rfl rfl) ?_|refine zf (zo 5 rfl rfl) ?_|refine zf (zo 6 rfl rfl) ?_|refine zf (zm 0 rfl rfl) ?_|refine zf (zm 1 rfl rfl) ?_|refine zf (zm 2 rfl rfl) ?_|refine zf (zm 3 rfl rfl) ?_|refine zf (zm 4 rfl rfl) ?_|refine zf (zm 5 rfl rfl) ?_|refine zf (zm 6 rfl rfl) ?_|refine zc (zo 0 rfl rfl) ?_|refine zc (zo 1 rfl rfl) ?_|refine zc (zo 2 rfl rfl) ?_|refine zc (zo 3 rfl rfl) ?_|refine zc (zo 4 rfl rfl) ?_|refine zc (zo 5 rfl rfl) ?_|refine zc (zo 6 rfl rfl) ?_|refine zc (zm 0 rfl rfl) ?_|refine zc (zm 1 rfl rfl) ?_|refine zc (zm 2 rfl rfl) ?_|refine zc (zm 3 rfl rfl) ?_|refine zc (zm 4 rfl rfl) ?_|refine zc (zm 5 rfl rfl) ?_|refine zc (zm 6 rfl rfl) ?_))) ?_)
    (repeat (first|refine yG (yN ?_)|refine yG (yD 0 rfl rfl rfl rfl rfl ?_)))
    refine VC.condP rfl (fun h5 => ?_) (fun h5 => VC.skip ?_)
    · (repeat (first|refine zS ?_|refine zR ?_|refine zB ?_|refine zL ?_|refine zC ?_|refine zG (zN ?_)|refine zG (zD 0 rfl rfl rfl rfl ?_)))
      exact ⟨(), trivial, S4 rfl (by rw [readReason, if_neg k1, if_neg k2, if_neg k3, if_neg h4, if_pos h5]) rfl rfl rfl, Ent.refl⟩
    · exact ⟨(), trivial, S4 rfl (by rw [readReason, if_neg k1, if_neg k2, if_neg k3, if_neg h4, if_neg h5]) rfl rfl rfl, Ent.refl⟩
  rintro _ -
  (repeat (first|refine zS ?_|refine zR ?_|refine zB ?_|refine zL ?_|refine zC ?_|refine zG (zN ?_)|refine zG (zD 0 rfl rfl rfl rfl ?_)))
  refine VC.condNE rfl (fun hr => ?_) (fun hr => VC.skip ?_)
  · (repeat (first|refine zS ?_|refine zR ?_|refine zB ?_|refine zL ?_|refine zC ?_|refine zG (zN ?_)|refine zG (zD 0 rfl rfl rfl rfl ?_)))
    refine VO.go (VO.ldA 6 (fgC f (ma, ms.length, mc)) rfl rfl rfl rfl ?_)
    (repeat (first|refine zS ?_|refine zR ?_|refine zB ?_|refine zL ?_|refine zC ?_|refine zG (zN ?_)|refine zG (zD 0 rfl rfl rfl rfl ?_)))
    refine VO.go (VO.callAt 7 rfl (fun Fr w hF hs hS => refuse_spec Fr w (hS.blk 0 rfl) (by omega) f (ma, ms.length, mc) hc0 (by omega) (readReason R f now)) rfl (ψ := fun v H => v = .tuple #[] ∧ H = outH b (S ++ [(32 + f.client, refuseF R.ch.epoch f (readReason R f now))])) (fun v L h => ⟨_, h.2, h.1, rfl⟩) ?_)
    rintro _ _ ⟨rfl, rfl⟩
    (repeat (first|refine zS ?_|refine zR ?_|refine zB ?_|refine zL ?_|refine zC ?_|refine zG (zN ?_)|refine zG (zD 0 rfl rfl rfl rfl ?_)))
    exact VC.ret (Ret.void rfl (Imp.rep x (Imp.pick 0 rfl (Imp.pick 0 rfl (Imp.pick 0 rfl (Imp.pick 0 rfl (Imp.pick 0 rfl (Imp.pick 0 rfl (Imp.pick 1 rfl Imp.nil)))))))).ent ⟨rfl, by rw [readR, if_pos hr]⟩)
  have hnf : (R.rds.l.length : Int) < R.rds.cap := by
    rw [← hmost]
    unfold readReason at hr
    split at hr
    · cases hr
    split at hr
    · cases hr
    split at hr
    · cases hr
    split at hr
    · cases hr
    split at hr
    · cases hr
    · omega
  refine VC.seq (VC.draw (ts 0 12 (.only 12 (.only 13 (ts 14 5 .nil)))) (by kernel_rfl) (by decide +kernel) ?_)
  (repeat (first|refine yG (yN ?_)|refine yG (yD 0 rfl rfl rfl rfl rfl ?_)|refine yG (yD 1 rfl rfl rfl rfl rfl ?_)|refine yG (yD 2 rfl rfl rfl rfl rfl ?_)|refine yG (yD 3 rfl rfl rfl rfl rfl ?_)|refine yG (yD 4 rfl rfl rfl rfl rfl ?_)|refine yG (yD 5 rfl rfl rfl rfl rfl ?_)|refine yG (yD 6 rfl rfl rfl rfl rfl ?_)))
  refine VA.go (VA.ldA 6 (fgC f (ma, ms.length, mc)) rfl rfl rfl rfl rfl ?_)
  (repeat (first|refine yG (yN ?_)|refine yG (yD 0 rfl rfl rfl rfl rfl ?_)|refine yG (yD 1 rfl rfl rfl rfl rfl ?_)|refine yG (yD 2 rfl rfl rfl rfl rfl ?_)|refine yG (yD 3 rfl rfl rfl rfl rfl ?_)|refine yG (yD 4 rfl rfl rfl rfl rfl ?_)|refine yG (yD 5 rfl rfl rfl rfl rfl ?_)|refine yG (yD 6 rfl rfl rfl rfl rfl ?_)))
  refine VA.go (VA.callR (fun Fr w hF hs hS => Lg.look_spec Fr w (hS.at_ 2 rfl) f.op.key) rfl rfl (by (try refine Pd.st ?_);(repeat (first|exact Pd.nil|exact Pd.fnil|refine Pd.inner ?_|refine Pd.skip (by decide +kernel) ?_|refine zf (zo 0 rfl rfl) ?_|refine zf (zo 1 rfl rfl) ?_|refine zf (zo 2 rfl rfl) ?_|refine zf (zo 3 rfl rfl) ?_|refine zf (zo 4 rfl rfl) ?_|refine zf (zo 5 rfl rfl) ?_|refine zf (zo 6 rfl rfl) ?_|refine zf (zm 0 rfl rfl) ?_|refine zf (zm 1 rfl rfl) ?_|refine zf (zm 2 rfl rfl) ?_|refine zf (zm 3 rfl rfl) ?_|refine zf (zm 4 rfl rfl) ?_|refine zf (zm 5 rfl rfl) ?_|refine zf (zm 6 rfl rfl) ?_|refine zc (zo 0 rfl rfl) ?_|refine zc (zo 1 rfl rfl) ?_|refine zc (zo 2 rfl rfl) ?_|refine zc (zo 3 rfl rfl) ?_|refine zc (zo 4 rfl rfl) ?_|refine zc (zo 5 rfl rfl) ?_|refine zc (zo 6 rfl rfl) ?_|refine zc (zm 0 rfl rfl) ?_|refine zc (zm 1 rfl rfl) ?_|refine zc (zm 2 rfl rfl) ?_|refine zc (zm 3 rfl rfl) ?_|refine zc (zm 4 rfl rfl) ?_|refine zc (zm 5 rfl rfl) ?_|refine zc (zm 6 rfl rfl) ?_))) ?_)
  refine VA.go (VA.callAt 5 rfl (fun Fr w hF hs hS => Rd.put_spec Fr w x.rp R.rds ok.rc0 ok.rc1 ok.rn0 (by have := ok.rn1; omega) f (hm.of hF hs) hml (kvLook (logRun R.log).1 f.op.key R.log.length)) rfl rfl (ψ := fun v H => v = .tuple #[.int .i64 (R.rds.last + 1), .int .i64 0] ∧ H = rdsH x.rp (R.rds.put f (kvLook (logRun R.log).1 f.op.key R.log.length))) (fun v L h => ⟨_, h.2, by rw [h.1, if_pos hnf], rfl⟩) ?_ ?_)
  · rintro _ _ ⟨rfl, rfl⟩
    exact (by (try refine Pd.st ?_);(repeat (first|exact Pd.nil|exact Pd.fnil|refine Pd.inner ?_|refine Pd.skip (by decide +kernel) ?_|refine zf (zo 0 rfl rfl) ?_|refine zf (zo 1 rfl rfl) ?_|refine zf (zo 2 rfl rfl) ?_|refine zf (zo 3 rfl rfl) ?_|refine zf (zo 4 rfl rfl) ?_|refine zf (zo 5 rfl rfl) ?_|refine zf (zo 6 rfl rfl) ?_|refine zf (zm 0 rfl rfl) ?_|refine zf (zm 1 rfl rfl) ?_|refine zf (zm 2 rfl rfl) ?_|refine zf (zm 3 rfl rfl) ?_|refine zf (zm 4 rfl rfl) ?_|refine zf (zm 5 rfl rfl) ?_|refine zf (zm 6 rfl rfl) ?_|refine zc (zo 0 rfl rfl) ?_|refine zc (zo 1 rfl rfl) ?_|refine zc (zo 2 rfl rfl) ?_|refine zc (zo 3 rfl rfl) ?_|refine zc (zo 4 rfl rfl) ?_|refine zc (zo 5 rfl rfl) ?_|refine zc (zo 6 rfl rfl) ?_|refine zc (zm 0 rfl rfl) ?_|refine zc (zm 1 rfl rfl) ?_|refine zc (zm 2 rfl rfl) ?_|refine zc (zm 3 rfl rfl) ?_|refine zc (zm 4 rfl rfl) ?_|refine zc (zm 5 rfl rfl) ?_|refine zc (zm 6 rfl rfl) ?_)))
  rintro _ _ ⟨rfl, rfl⟩
  (repeat (first|refine yG (yN ?_)|refine yG (yD 0 rfl rfl rfl rfl rfl ?_)))
  (repeat (first|refine zS ?_|refine zR ?_|refine zB ?_|refine zL ?_|refine zC ?_|refine zG (zN ?_)|refine zG (zD 0 rfl rfl rfl rfl ?_)))
  refine VO.go (VO.light (light_build (pv := [(0, .int .i64 9), (1, .int .i64 R.ch.epoch), (12, .int .i64 (R.rds.last + 1))]) (fgC (confirmF R.ch.epoch (R.rds.last + 1)) mem0) rfl rfl rfl (by kernel_rfl) rfl) ?_)
  refine VO.go (VO.callFAt 7 rfl rfl (fun Fr w hF hs _ => add_spec Fr w b S (by omega) 16 (confirmF R.ch.epoch (R.rds.last + 1))) rfl (ψ := fun v H => v = .tuple #[] ∧ H = outH b (S ++ [(16, confirmF R.ch.epoch (R.rds.last + 1))])) (fun v L h => ⟨_, h.2, h.1, rfl⟩) ?_)
  rintro _ _ ⟨rfl, rfl⟩
  (repeat (first|refine zS ?_|refine zR ?_|refine zB ?_|refine zL ?_|refine zC ?_|refine zG (zN ?_)|refine zG (zD 0 rfl rfl rfl rfl ?_)))
  exact Ret.void rfl (Imp.rep (R := { R with rds := R.rds.put f (kvLook (logRun R.log).1 f.op.key R.log.length) }) x (Imp.pick 0 rfl (Imp.pick 0 rfl (Imp.pick 0 rfl (Imp.pick 0 rfl (Imp.pick 0 rfl (Imp.pick 0 rfl (Imp.pick 1 rfl Imp.nil)))))))).ent ⟨rfl, by rw [readR, if_neg (fun h => h hr)]⟩
end
end Go.Proofs.YtbbnmgakmcppdaaGreat.Rep
namespace Go.Proofs.YtbbnmgakmcppdaaGreat.Rep
open Go Go.Proofs.YtbbnmgakmcppdaaGreat.Vg Go.Proofs.YtbbnmgakmcppdaaGreat.T Go.Proofs.YtbbnmgakmcppdaaGreat.Api Go.Proofs.YtbbnmgakmcppdaaGreat.Kv Go.Proofs.YtbbnmgakmcppdaaGreat.Ch Go.Proofs.YtbbnmgakmcppdaaGreat.Lg Go.Proofs.YtbbnmgakmcppdaaGreat.Rd Go.Proofs.YtbbnmgakmcppdaaGreat.Win Go.Proofs.YtbbnmgakmcppdaaGreat.Adm
set_option linter.unusedSimpArgs false
set_option linter.unusedVariables false
attribute [local irreducible] VO VC VA

theorem ack_ok {W : WinM} (h : W.Ok) (i : Int) : (W.ack i).Ok := by
  unfold WinM.ack
  split
  · rename_i hb
    simp only [WinM.ackB, Bool.and_eq_true, decide_eq_true_eq] at hb
    have := h.done0
    exact ⟨h.cap0, h.cap1, by show 0 ≤ i; omega, hb.2, h.last1, h.sent0, h.sent1, h.lim0, h.lim1⟩
  · exact h
theorem ack_last (W : WinM) (i : Int) : (W.ack i).last = W.last := by unfold WinM.ack; split <;> rfl
theorem finishR_ok {R : RepM} (h : R.Ok) : R.finishR.Ok := by
  unfold RepM.finishR
  split
  · exact ⟨h.ch, ack_ok h.win _, by rw [ack_last]; exact h.last, h.logc, h.logi, h.rc0, h.rc1, h.rl, h.rn0, h.rn1, h.rcl, h.calls, h.wf⟩
  · exact h
theorem becomeR_ok {R : RepM} (h : R.Ok) : R.becomeR.Ok := by
  unfold RepM.becomeR
  split
  · exact ⟨h.ch, h.win, h.last, h.logc, h.logi, h.rc0, h.rc1, h.rl, h.rn0, h.rn1, h.rcl, h.calls, h.wf⟩
  · exact h
/-- An entry more. -/
def pushE (R : RepM) (e : EntryM) : RepM := { R with log := R.log ++ [e], win := { R.win with last := R.win.last + 1 } }
theorem logErr_ok {es : List EntryM} {e : EntryM} (h : logErr es e = 0) : badE e = false ∧ es.length < 4096 ∧ e.index = es.length + 1 ∧ (lastOf es e.client).1 < e.seq := by
  unfold logErr at h
  split at h
  · cases h
  rename_i h1
  split at h
  · cases h
  rename_i h2
  split at h
  · cases h
  rename_i h3
  split at h
  · cases h
  rename_i h4
  exact ⟨by simpa using h1, by omega, by omega, by omega⟩
theorem bad_client {e : EntryM} (h : badE e = false) : 0 ≤ e.client ∧ e.client < 6 ∧ 1 ≤ e.seq := by
  simp only [badE, Bool.or_eq_false_iff, decide_eq_false_iff_not] at h
  omega
theorem pushE_ok {R : RepM} (h : R.Ok) {e : EntryM} (he : logErr R.log e = 0) (hr : R.win.room = true) : (pushE R e).Ok := by
  obtain ⟨b1, b2, b3, b4⟩ := logErr_ok he
  have hc := bad_client b1
  simp only [WinM.room, Bool.and_eq_true, decide_eq_true_eq] at hr
  have hw := h.win
  have hl := h.last
  refine ⟨h.ch, ⟨hw.cap0, hw.cap1, hw.done0, ?_, ?_, hw.sent0, ?_, hw.lim0, hw.lim1⟩, ?_, ?_, ?_, h.rc0, h.rc1, h.rl, h.rn0, h.rn1, h.rcl, h.calls, h.wf⟩
  · have := hw.done1; show R.win.done ≤ R.win.last + 1; omega
  · show R.win.last + 1 ≤ 4096; omega
  · have := hw.sent1; show R.win.sent ≤ R.win.last + 1; omega
  · show R.win.last + 1 = (R.log ++ [e]).length; rw [List.length_append, hl]; simp
  · intro y hy
    rcases List.mem_append.1 hy with hy | hy
    · exact h.logc y hy
    · obtain rfl := List.mem_singleton.1 hy; exact ⟨hc.1, hc.2.1⟩
  · intro y hy
    show _ ∧ y.index ≤ (R.log ++ [e]).length
    rw [List.length_append]
    rcases List.mem_append.1 hy with hy | hy
    · have := h.logi y hy; exact ⟨this.1, by simp; omega⟩
    · obtain rfl := List.mem_singleton.1 hy; exact ⟨by omega, by simp; omega⟩
theorem repl_len (R : RepM) (k : Nat) : (replies R k).length = k := by simp [replies]
theorem finishM_len {R : RepM} (h : R.Ok) : R.finishM.length ≤ 4096 := by
  unfold RepM.finishM
  split
  · rw [repl_len]; have := h.win.last1; have := h.win.done0; omega
  · simp
theorem baseM_len (R : RepM) : R.baseM.length ≤ 1 := by unfold RepM.baseM; split <;> simp
theorem becomeM_len (R : RepM) : R.becomeM.length ≤ 1 := by
  unfold RepM.becomeM
  split
  · exact baseM_len _
  · simp
theorem greetM_len (R : RepM) : R.greetM.length ≤ 1 := by unfold RepM.greetM; split <;> simp
def fwdB (R : RepM) (e : EntryM) : Bool := (e.index == R.win.last + 1) && decide (0 < max (min (R.win.done + R.win.cap) 4096 - R.win.last) 0)
theorem fwd_room {R : RepM} {e : EntryM} (h : fwdB R e = true) : R.win.room = true := by
  simp only [fwdB, Bool.and_eq_true, decide_eq_true_eq] at h
  simp only [WinM.room, Bool.and_eq_true, decide_eq_true_eq]
  omega
def forwardR (R : RepM) (e : EntryM) : RepM × List SndM :=
  if fwdB R e = true ∧ logErr R.log e = 0 then ((pushE R e).finishR.becomeR, (pushE R e).finishM ++ (pushE R e).finishR.becomeM ++ (pushE R e).finishR.becomeR.greetM)
  else (R, R.greetM)
section
variable {p : Nat} {R : RepM} {b : Nat} {S : List SndM}
set_option maxRecDepth 100000 in
set_option maxHeartbeats 4000000 in
theorem forward_spec (Fr : Nat → Prop) (w : World) (ok : R.Ok) (hS : S.length ≤ 800000) (e : EntryM) (hi1 : -9223372036854775808 ≤ e.index) (hi2 : e.index ≤ 9223372036854775807) : Tri Tryz.prog 65 [.pointer (some ⟨p, 0, none⟩), .agg (entC e).toArray, sendF b] Fr w [repH p R, outH b S]
    (fun v L => v = .tuple #[] ∧ L = [repH p (forwardR R e).1, outH b (S ++ (forwardR R e).2)]) := by
  have w0 := ok.win.cap0
  have w1 := ok.win.last1; have w2 := ok.win.done0; have w3 := ok.win.done1
  refine Tri.of 50 Tryz.func65 rfl (by kernel_rfl) tabOk rfl rfl ?_
  refine VC.seq (VC.region (VO.go (VO.boxA (vs := entC e) rfl fun eb => VO.go (VO.nil ?_))))
  refine VC.seq ?_
  refine VC.meetS (σ := RepM × List SndM) (fun _ => [(0, .pointer (some ⟨p, 0, none⟩)), (2, sendF b)]) (fun y => [repH p y.1, outH b (S ++ y.2)]) (fun y => y.1.Ok ∧ y.2.length ≤ 10000 ∧ forwardR R e = (y.1, y.2 ++ y.1.greetM)) ?_ ?_
  · refine VC.opn 1 rfl (HOpn.rep p R) ?_
    rintro x -
    show VC _ _ _ [pt p (repCs R x) repT, slH memT 2 x.a R.ch.ms.length x.c (flat memC R.ch.ms), logH x.lp R.log, winH x.wp R.win, admH x.ap R.adm, rdsH x.rp R.rds, pt eb (entC e) entT, outH b S] _
    have shut : ∀ {X : Cx} {T : List SndM}, Ent X [pt p (repCs R x) repT, slH memT 2 x.a R.ch.ms.length x.c (flat memC R.ch.ms), logH x.lp R.log, winH x.wp R.win, admH x.ap R.adm, rdsH x.rp R.rds, pt eb (entC e) entT, outH b T] [repH p R, outH b T] :=
      (Imp.rep x (Imp.pick 0 rfl (Imp.pick 0 rfl (Imp.pick 0 rfl (Imp.pick 0 rfl (Imp.pick 0 rfl (Imp.pick 0 rfl (Imp.pick 1 rfl Imp.nil)))))))).ent
    have none_ : ¬ (fwdB R e = true ∧ logErr R.log e = 0) → R.Ok ∧ ([] : List SndM).length ≤ 10000 ∧ forwardR R e = (R, [] ++ R.greetM) := fun h => ⟨ok, by simp, by rw [forwardR, if_neg h]; rfl⟩
    refine VC.seq (VC.draw (ts 0 6 (.only 6 (ts 7 7 (.only 14 (ts 15 2 .nil))))) (by kernel_rfl) (by decide +kernel) ?_)
    (repeat (first|refine yG (yN ?_)|refine yG (yD 0 rfl rfl rfl rfl rfl ?_)|refine yG (yD 1 rfl rfl rfl rfl rfl ?_)|refine yG (yD 2 rfl rfl rfl rfl rfl ?_)|refine yG (yD 3 rfl rfl rfl rfl rfl ?_)|refine yG (yD 4 rfl rfl rfl rfl rfl ?_)|refine yG (yD 5 rfl rfl rfl rfl rfl ?_)|refine yG (yD 6 rfl rfl rfl rfl rfl ?_)))
    refine VA.go (VA.callR (fun Fr w hF hs hS => Win.last_spec Fr w (hS.blk 3 rfl) w0) rfl rfl (by (try refine Pd.st ?_);(repeat (first|exact Pd.nil|exact Pd.fnil|refine Pd.inner ?_|refine Pd.skip (by decide +kernel) ?_|refine zf (zo 0 rfl rfl) ?_|refine zf (zo 1 rfl rfl) ?_|refine zf (zo 2 rfl rfl) ?_|refine zf (zo 3 rfl rfl) ?_|refine zf (zo 4 rfl rfl) ?_|refine zf (zo 5 rfl rfl) ?_|refine zf (zo 6 rfl rfl) ?_|refine zf (zm 0 rfl rfl) ?_|refine zf (zm 1 rfl rfl) ?_|refine zf (zm 2 rfl rfl) ?_|refine zf (zm 3 rfl rfl) ?_|refine zf (zm 4 rfl rfl) ?_|refine zf (zm 5 rfl rfl) ?_|refine zf (zm 6 rfl rfl) ?_|refine zc (zo 0 rfl rfl) ?_|refine zc (zo 1 rfl rfl) ?_|refine zc (zo 2 rfl rfl) ?_|refine zc (zo 3 rfl rfl) ?_|refine zc (zo 4 rfl rfl) ?_|refine zc (zo 5 rfl rfl) ?_|refine zc (zo 6 rfl rfl) ?_|refine zc (zm 0 rfl rfl) ?_|refine zc (zm 1 rfl rfl) ?_|refine zc (zm 2 rfl rfl) ?_|refine zc (zm 3 rfl rfl) ?_|refine zc (zm 4 rfl rfl) ?_|refine zc (zm 5 rfl rfl) ?_|refine zc (zm 6 rfl rfl) ?_))) ?_)
    refine VA.go (VA.add rfl rfl rfl (by omega) (by omega) ?_)
    (repeat (first|refine yG (yN ?_)|refine yG (yD 0 rfl rfl rfl rfl rfl ?_)))
    cases h1 : (e.index == R.win.last + 1) with
    | false =>
      refine VA.go (VA.yes 17 false rfl h1 ?_)
      (repeat (first|refine yG (yN ?_)|refine yG (yD 0 rfl rfl rfl rfl rfl ?_)|refine yG (yU rfl rfl rfl rfl ?_)))
      refine VA.go (VA.offO rfl rfl ?_)
      (repeat (first|refine yG (yN ?_)|refine yG (yD 0 rfl rfl rfl rfl rfl ?_)|refine yG (yU rfl rfl rfl rfl ?_)))
      refine VC.condF rfl (VC.skip ?_)
      exact ⟨(R, []), none_ (fun h => by rw [fwdB, h1] at h; exact absurd h.1 (by simp)), Sub.cons rfl (Sub.cons rfl (Sub.nil _)), by dsimp only; rw [List.append_nil]; exact shut⟩
    | true =>
    refine VA.go (VA.yes 17 true rfl h1 ?_)
    (repeat (first|refine yG (yN ?_)|refine yG (yD 0 rfl rfl rfl rfl rfl ?_)|refine yG (yD 1 rfl rfl rfl rfl rfl ?_)|refine yG (yD 2 rfl rfl rfl rfl rfl ?_)|refine yG (yD 3 rfl rfl rfl rfl rfl ?_)|refine yG (yD 4 rfl rfl rfl rfl rfl ?_)|refine yG (yD 5 rfl rfl rfl rfl rfl ?_)|refine yG (yD 6 rfl rfl rfl rfl rfl ?_)|refine yG (yU rfl rfl rfl rfl ?_)))
    refine VA.go (VA.callR (fun Fr w hF hs hS => Win.free_spec Fr w (hS.blk 3 rfl) ok.win) rfl rfl (by (try refine Pd.st ?_);(repeat (first|exact Pd.nil|exact Pd.fnil|refine Pd.inner ?_|refine Pd.skip (by decide +kernel) ?_|refine zf (zo 0 rfl rfl) ?_|refine zf (zo 1 rfl rfl) ?_|refine zf (zo 2 rfl rfl) ?_|refine zf (zo 3 rfl rfl) ?_|refine zf (zo 4 rfl rfl) ?_|refine zf (zo 5 rfl rfl) ?_|refine zf (zo 6 rfl rfl) ?_|refine zf (zm 0 rfl rfl) ?_|refine zf (zm 1 rfl rfl) ?_|refine zf (zm 2 rfl rfl) ?_|refine zf (zm 3 rfl rfl) ?_|refine zf (zm 4 rfl rfl) ?_|refine zf (zm 5 rfl rfl) ?_|refine zf (zm 6 rfl rfl) ?_|refine zc (zo 0 rfl rfl) ?_|refine zc (zo 1 rfl rfl) ?_|refine zc (zo 2 rfl rfl) ?_|refine zc (zo 3 rfl rfl) ?_|refine zc (zo 4 rfl rfl) ?_|refine zc (zo 5 rfl rfl) ?_|refine zc (zo 6 rfl rfl) ?_|refine zc (zm 0 rfl rfl) ?_|refine zc (zm 1 rfl rfl) ?_|refine zc (zm 2 rfl rfl) ?_|refine zc (zm 3 rfl rfl) ?_|refine zc (zm 4 rfl rfl) ?_|refine zc (zm 5 rfl rfl) ?_|refine zc (zm 6 rfl rfl) ?_))) ?_)
    (repeat (first|refine yG (yN ?_)|refine yG (yD 0 rfl rfl rfl rfl rfl ?_)|refine yG (yU rfl rfl rfl rfl ?_)))
    refine VC.condP rfl (fun h2 => ?_) (fun h2 => VC.skip ?_)
    rotate_left
    · exact ⟨(R, []), none_ (fun h => by rw [fwdB, h1, decide_eq_false h2] at h; exact absurd h.1 (by simp)), Sub.cons rfl (Sub.cons rfl (Sub.nil _)), by dsimp only; rw [List.append_nil]; exact shut⟩
    have hfb : fwdB R e = true := by rw [fwdB, h1, decide_eq_true h2]; rfl
    refine VC.seq ?_
    refine VC.meetS (σ := Nat) (fun rb => [(0, .pointer (some ⟨p, 0, none⟩)), (2, sendF b), (7, .int .i64 (logErr R.log e))]) (fun rb => [pt rb (resC (logRes R.log e)) resT, pt p (repCs R x) repT, slH memT 2 x.a R.ch.ms.length x.c (flat memC R.ch.ms), logH x.lp (logApp R.log e), winH x.wp R.win, admH x.ap R.adm, rdsH x.rp R.rds, pt eb (entC e) entT, outH b S]) (fun _ => True) ?_ ?_
    · refine VC.draw (ts 0 5 (.two 5 9 (ts 6 3 (.only 9 (.only 10 (.take 11 .nil)))) (.only 5 (ts 6 3 (.only 10 (.take 11 .nil)))))) (by kernel_rfl) (by decide +kernel) ?_
      (repeat (first|refine yG (yN ?_)|refine yG (yD 0 rfl rfl rfl rfl rfl ?_)|refine yG (yD 1 rfl rfl rfl rfl rfl ?_)|refine yG (yD 2 rfl rfl rfl rfl rfl ?_)|refine yG (yD 3 rfl rfl rfl rfl rfl ?_)|refine yG (yD 4 rfl rfl rfl rfl rfl ?_)|refine yG (yD 5 rfl rfl rfl rfl rfl ?_)|refine yG (yD 6 rfl rfl rfl rfl rfl ?_)))
      refine VA.go (VA.ldA 6 (entC e) rfl rfl rfl rfl rfl ?_)
      refine VA.go (VA.two rfl rfl rfl rfl rfl (OpT.callAt (ψ := fun v H => v = .tuple #[.agg (resC (logRes R.log e)).toArray, .int .i64 (logErr R.log e)] ∧ H = logH x.lp (logApp R.log e)) 2 rfl (fun Fr w hF hs hS => Lg.append_spec Fr w x.lp R.log e) rfl (fun v L h => ⟨_, h.2, h.1, rfl⟩)) rfl rfl rfl (OpT.alloc rfl) ?_ ?_ ?_ ?_)
      · rintro _ _ ⟨_, ⟨rfl, rfl⟩, rfl⟩
        exact (by (try refine Pd.st ?_);(repeat (first|exact Pd.nil|exact Pd.fnil|refine Pd.inner ?_|refine Pd.skip (by decide +kernel) ?_|refine zf (zo 0 rfl rfl) ?_|refine zf (zo 1 rfl rfl) ?_|refine zf (zo 2 rfl rfl) ?_|refine zf (zo 3 rfl rfl) ?_|refine zf (zo 4 rfl rfl) ?_|refine zf (zo 5 rfl rfl) ?_|refine zf (zo 6 rfl rfl) ?_|refine zf (zm 0 rfl rfl) ?_|refine zf (zm 1 rfl rfl) ?_|refine zf (zm 2 rfl rfl) ?_|refine zf (zm 3 rfl rfl) ?_|refine zf (zm 4 rfl rfl) ?_|refine zf (zm 5 rfl rfl) ?_|refine zf (zm 6 rfl rfl) ?_|refine zc (zo 0 rfl rfl) ?_|refine zc (zo 1 rfl rfl) ?_|refine zc (zo 2 rfl rfl) ?_|refine zc (zo 3 rfl rfl) ?_|refine zc (zo 4 rfl rfl) ?_|refine zc (zo 5 rfl rfl) ?_|refine zc (zo 6 rfl rfl) ?_|refine zc (zm 0 rfl rfl) ?_|refine zc (zm 1 rfl rfl) ?_|refine zc (zm 2 rfl rfl) ?_|refine zc (zm 3 rfl rfl) ?_|refine zc (zm 4 rfl rfl) ?_|refine zc (zm 5 rfl rfl) ?_|refine zc (zm 6 rfl rfl) ?_)))
      · rintro _ _ ⟨rb, rfl, rfl⟩
        exact (by (try refine Pd.st ?_);(repeat (first|exact Pd.nil|exact Pd.fnil|refine Pd.inner ?_|refine Pd.skip (by decide +kernel) ?_|refine zf (zo 0 rfl rfl) ?_|refine zf (zo 1 rfl rfl) ?_|refine zf (zo 2 rfl rfl) ?_|refine zf (zo 3 rfl rfl) ?_|refine zf (zo 4 rfl rfl) ?_|refine zf (zo 5 rfl rfl) ?_|refine zf (zo 6 rfl rfl) ?_|refine zf (zo 7 rfl rfl) ?_|refine zf (zm 0 rfl rfl) ?_|refine zf (zm 1 rfl rfl) ?_|refine zf (zm 2 rfl rfl) ?_|refine zf (zm 3 rfl rfl) ?_|refine zf (zm 4 rfl rfl) ?_|refine zf (zm 5 rfl rfl) ?_|refine zf (zm 6 rfl rfl) ?_|refine zf (zm 7 rfl rfl) ?_|refine zc (zo 0 rfl rfl) ?_|refine zc (zo 1 rfl rfl) ?_|refine zc (zo 2 rfl rfl) ?_|refine zc (zo 3 rfl rfl) ?_|refine zc (zo 4 rfl rfl) ?_|refine zc (zo 5 rfl rfl) ?_|refine zc (zo 6 rfl rfl) ?_|refine zc (zo 7 rfl rfl) ?_|refine zc (zm 0 rfl rfl) ?_|refine zc (zm 1 rfl rfl) ?_|refine zc (zm 2 rfl rfl) ?_|refine zc (zm 3 rfl rfl) ?_|refine zc (zm 4 rfl rfl) ?_|refine zc (zm 5 rfl rfl) ?_|refine zc (zm 6 rfl rfl) ?_|refine zc (zm 7 rfl rfl) ?_)))
      · rintro _ _ ⟨_, ⟨rfl, rfl⟩, rfl⟩
        (repeat (first|refine yG (yN ?_)|refine yG (yD 0 rfl rfl rfl rfl rfl ?_)))
        refine VA.go (VA.opP (OpT.alloc rfl) rfl ?_ ?_)
        · rintro _ _ ⟨rb, rfl, rfl⟩
          exact (by (try refine Pd.st ?_);(repeat (first|exact Pd.nil|exact Pd.fnil|refine Pd.inner ?_|refine Pd.skip (by decide +kernel) ?_|refine zf (zo 0 rfl rfl) ?_|refine zf (zo 1 rfl rfl) ?_|refine zf (zo 2 rfl rfl) ?_|refine zf (zo 3 rfl rfl) ?_|refine zf (zo 4 rfl rfl) ?_|refine zf (zo 5 rfl rfl) ?_|refine zf (zo 6 rfl rfl) ?_|refine zf (zo 7 rfl rfl) ?_|refine zf (zm 0 rfl rfl) ?_|refine zf (zm 1 rfl rfl) ?_|refine zf (zm 2 rfl rfl) ?_|refine zf (zm 3 rfl rfl) ?_|refine zf (zm 4 rfl rfl) ?_|refine zf (zm 5 rfl rfl) ?_|refine zf (zm 6 rfl rfl) ?_|refine zf (zm 7 rfl rfl) ?_|refine zc (zo 0 rfl rfl) ?_|refine zc (zo 1 rfl rfl) ?_|refine zc (zo 2 rfl rfl) ?_|refine zc (zo 3 rfl rfl) ?_|refine zc (zo 4 rfl rfl) ?_|refine zc (zo 5 rfl rfl) ?_|refine zc (zo 6 rfl rfl) ?_|refine zc (zo 7 rfl rfl) ?_|refine zc (zm 0 rfl rfl) ?_|refine zc (zm 1 rfl rfl) ?_|refine zc (zm 2 rfl rfl) ?_|refine zc (zm 3 rfl rfl) ?_|refine zc (zm 4 rfl rfl) ?_|refine zc (zm 5 rfl rfl) ?_|refine zc (zm 6 rfl rfl) ?_|refine zc (zm 7 rfl rfl) ?_)))
        rintro _ _ ⟨rb, rfl, rfl⟩
        refine VA.go (VA.stA (vs := resC (logRes R.log e)) 0 rfl rfl rfl rfl rfl (Nat.le_refl _) rfl rfl rfl (by (try refine Pd.st ?_);(repeat (first|exact Pd.nil|exact Pd.fnil|refine Pd.inner ?_|refine Pd.skip (by decide +kernel) ?_|refine zf (zo 0 rfl rfl) ?_|refine zf (zo 1 rfl rfl) ?_|refine zf (zo 2 rfl rfl) ?_|refine zf (zo 3 rfl rfl) ?_|refine zf (zo 4 rfl rfl) ?_|refine zf (zo 5 rfl rfl) ?_|refine zf (zo 6 rfl rfl) ?_|refine zf (zo 7 rfl rfl) ?_|refine zf (zm 0 rfl rfl) ?_|refine zf (zm 1 rfl rfl) ?_|refine zf (zm 2 rfl rfl) ?_|refine zf (zm 3 rfl rfl) ?_|refine zf (zm 4 rfl rfl) ?_|refine zf (zm 5 rfl rfl) ?_|refine zf (zm 6 rfl rfl) ?_|refine zf (zm 7 rfl rfl) ?_|refine zc (zo 0 rfl rfl) ?_|refine zc (zo 1 rfl rfl) ?_|refine zc (zo 2 rfl rfl) ?_|refine zc (zo 3 rfl rfl) ?_|refine zc (zo 4 rfl rfl) ?_|refine zc (zo 5 rfl rfl) ?_|refine zc (zo 6 rfl rfl) ?_|refine zc (zo 7 rfl rfl) ?_|refine zc (zm 0 rfl rfl) ?_|refine zc (zm 1 rfl rfl) ?_|refine zc (zm 2 rfl rfl) ?_|refine zc (zm 3 rfl rfl) ?_|refine zc (zm 4 rfl rfl) ?_|refine zc (zm 5 rfl rfl) ?_|refine zc (zm 6 rfl rfl) ?_|refine zc (zm 7 rfl rfl) ?_))) ?_)
        (repeat (first|refine yG (yN ?_)|refine yG (yD 0 rfl rfl rfl rfl rfl ?_)))
        exact ⟨rb, trivial, Sub.cons rfl (Sub.cons rfl (Sub.cons rfl (Sub.nil _))), Ent.refl⟩
      · rintro _ _ ⟨rb, rfl, rfl⟩
        refine VA.go (VA.opP (OpT.callAt (ψ := fun v H => v = .tuple #[.agg (resC (logRes R.log e)).toArray, .int .i64 (logErr R.log e)] ∧ H = logH x.lp (logApp R.log e)) 3 rfl (fun Fr w hF hs hS => Lg.append_spec Fr w x.lp R.log e) rfl (fun v L h => ⟨_, h.2, h.1, rfl⟩)) rfl ?_ ?_)
        · rintro _ _ ⟨_, ⟨rfl, rfl⟩, rfl⟩
          exact (by (try refine Pd.st ?_);(repeat (first|exact Pd.nil|exact Pd.fnil|refine Pd.inner ?_|refine Pd.skip (by decide +kernel) ?_|refine zf (zo 0 rfl rfl) ?_|refine zf (zo 1 rfl rfl) ?_|refine zf (zo 2 rfl rfl) ?_|refine zf (zo 3 rfl rfl) ?_|refine zf (zo 4 rfl rfl) ?_|refine zf (zo 5 rfl rfl) ?_|refine zf (zo 6 rfl rfl) ?_|refine zf (zo 7 rfl rfl) ?_|refine zf (zm 0 rfl rfl) ?_|refine zf (zm 1 rfl rfl) ?_|refine zf (zm 2 rfl rfl) ?_|refine zf (zm 3 rfl rfl) ?_|refine zf (zm 4 rfl rfl) ?_|refine zf (zm 5 rfl rfl) ?_|refine zf (zm 6 rfl rfl) ?_|refine zf (zm 7 rfl rfl) ?_|refine zc (zo 0 rfl rfl) ?_|refine zc (zo 1 rfl rfl) ?_|refine zc (zo 2 rfl rfl) ?_|refine zc (zo 3 rfl rfl) ?_|refine zc (zo 4 rfl rfl) ?_|refine zc (zo 5 rfl rfl) ?_|refine zc (zo 6 rfl rfl) ?_|refine zc (zo 7 rfl rfl) ?_|refine zc (zm 0 rfl rfl) ?_|refine zc (zm 1 rfl rfl) ?_|refine zc (zm 2 rfl rfl) ?_|refine zc (zm 3 rfl rfl) ?_|refine zc (zm 4 rfl rfl) ?_|refine zc (zm 5 rfl rfl) ?_|refine zc (zm 6 rfl rfl) ?_|refine zc (zm 7 rfl rfl) ?_)))
        rintro _ _ ⟨_, ⟨rfl, rfl⟩, rfl⟩
        (repeat (first|refine yG (yN ?_)|refine yG (yD 0 rfl rfl rfl rfl rfl ?_)))
        refine VA.go (VA.stA (vs := resC (logRes R.log e)) 0 rfl rfl rfl rfl rfl (Nat.le_refl _) rfl rfl rfl (by (try refine Pd.st ?_);(repeat (first|exact Pd.nil|exact Pd.fnil|refine Pd.inner ?_|refine Pd.skip (by decide +kernel) ?_|refine zf (zo 0 rfl rfl) ?_|refine zf (zo 1 rfl rfl) ?_|refine zf (zo 2 rfl rfl) ?_|refine zf (zo 3 rfl rfl) ?_|refine zf (zo 4 rfl rfl) ?_|refine zf (zo 5 rfl rfl) ?_|refine zf (zo 6 rfl rfl) ?_|refine zf (zo 7 rfl rfl) ?_|refine zf (zm 0 rfl rfl) ?_|refine zf (zm 1 rfl rfl) ?_|refine zf (zm 2 rfl rfl) ?_|refine zf (zm 3 rfl rfl) ?_|refine zf (zm 4 rfl rfl) ?_|refine zf (zm 5 rfl rfl) ?_|refine zf (zm 6 rfl rfl) ?_|refine zf (zm 7 rfl rfl) ?_|refine zc (zo 0 rfl rfl) ?_|refine zc (zo 1 rfl rfl) ?_|refine zc (zo 2 rfl rfl) ?_|refine zc (zo 3 rfl rfl) ?_|refine zc (zo 4 rfl rfl) ?_|refine zc (zo 5 rfl rfl) ?_|refine zc (zo 6 rfl rfl) ?_|refine zc (zo 7 rfl rfl) ?_|refine zc (zm 0 rfl rfl) ?_|refine zc (zm 1 rfl rfl) ?_|refine zc (zm 2 rfl rfl) ?_|refine zc (zm 3 rfl rfl) ?_|refine zc (zm 4 rfl rfl) ?_|refine zc (zm 5 rfl rfl) ?_|refine zc (zm 6 rfl rfl) ?_|refine zc (zm 7 rfl rfl) ?_))) ?_)
        (repeat (first|refine yG (yN ?_)|refine yG (yD 0 rfl rfl rfl rfl rfl ?_)))
        exact ⟨rb, trivial, Sub.cons rfl (Sub.cons rfl (Sub.cons rfl (Sub.nil _))), Ent.refl⟩
    rintro rb -
    (repeat (first|refine zS ?_|refine zR ?_|refine zB ?_|refine zL ?_|refine zC ?_|refine zG (zN ?_)|refine zG (zD 0 rfl rfl rfl rfl ?_)))
    refine VC.condE rfl (fun h3 => ?_) (fun h3 => VC.skip ?_)
    rotate_left
    · have hla : logApp R.log e = R.log := by rw [logApp, if_neg h3]
      rw [hla]
      exact ⟨(R, []), none_ (fun h => h3 h.2), Sub.cons rfl (Sub.cons rfl (Sub.nil _)), by
        dsimp only; rw [List.append_nil]
        exact (Imp.rep x (Imp.pick 1 rfl (Imp.pick 1 rfl (Imp.pick 1 rfl (Imp.pick 1 rfl (Imp.pick 1 rfl (Imp.pick 1 rfl (Imp.pick 2 rfl Imp.nil)))))))).ent⟩
    have hla : logApp R.log e = R.log ++ [e] := by rw [logApp, if_pos h3]
    have hroom := fwd_room hfb
    have okp := pushE_ok ok h3 hroom
    rw [hla]
    (repeat (first|refine zS ?_|refine zR ?_|refine zB ?_|refine zL ?_|refine zC ?_|refine zG (zN ?_)|refine zG (zD 0 rfl rfl rfl rfl ?_)|refine zG (zD 1 rfl rfl rfl rfl ?_)))
    refine VO.go (VO.callAt 4 rfl (fun Fr w hF hs hS => Win.push_spec Fr w ok.win hroom) rfl (ψ := fun v H => v = .bool true ∧ H = winH x.wp { R.win with last := R.win.last + 1 }) (fun v L h => ⟨_, h.2, h.1, rfl⟩) ?_)
    rintro _ _ ⟨rfl, rfl⟩
    refine VO.ent (L' := [repH p (pushE R e), outH b S]) (Imp.rep (R := pushE R e) x (Imp.pick 1 rfl (Imp.pick 1 rfl (Imp.pick 1 rfl (Imp.pick 1 rfl (Imp.pick 1 rfl (Imp.pick 1 rfl (Imp.pick 2 rfl Imp.nil)))))))).ent ?_
    (repeat (first|refine zS ?_|refine zR ?_|refine zB ?_|refine zL ?_|refine zC ?_|refine zG (zN ?_)|refine zG (zD 0 rfl rfl rfl rfl ?_)))
    refine VO.go (VO.call (Lc := [repH p (pushE R e), outH b S]) (Lr := []) (fun Fr w hF hs hS => finish_spec Fr w okp (by omega)) rfl rfl ?_)
    rintro _ _ ⟨rfl, rfl⟩
    have fl := finishM_len okp
    (repeat (first|refine zS ?_|refine zR ?_|refine zB ?_|refine zL ?_|refine zC ?_|refine zG (zN ?_)|refine zG (zD 0 rfl rfl rfl rfl ?_)))
    refine VO.go (VO.call (Lc := [repH p (pushE R e).finishR, outH b (S ++ (pushE R e).finishM)]) (Lr := []) (fun Fr w hF hs hS => become_spec Fr w (finishR_ok okp) (by rw [List.length_append]; omega)) rfl rfl ?_)
    rintro _ _ ⟨rfl, rfl⟩
    have bl := becomeM_len (pushE R e).finishR
    (repeat (first|refine zS ?_|refine zR ?_|refine zB ?_|refine zL ?_|refine zC ?_|refine zG (zN ?_)|refine zG (zD 0 rfl rfl rfl rfl ?_)))
    refine ⟨((pushE R e).finishR.becomeR, (pushE R e).finishM ++ (pushE R e).finishR.becomeM), ⟨becomeR_ok (finishR_ok okp), by dsimp only; rw [List.length_append]; omega, by rw [forwardR, if_pos ⟨hfb, h3⟩]⟩, Sub.cons rfl (Sub.cons rfl (Sub.nil _)), ?_⟩
    dsimp only
    rw [List.append_assoc]
    exact Ent.refl
  rintro ⟨R', T⟩ ⟨ok', hT, hf⟩
  dsimp only at ok' hT hf ⊢
  refine VC.opn 0 rfl (HOpn.rep p R') ?_
  rintro x -
  show VC _ _ _ (repO p R' x b (S ++ T)) _
  unfold repO
  (repeat (first|refine zS ?_|refine zR ?_|refine zB ?_|refine zL ?_|refine zC ?_|refine zG (zN ?_)|refine zG (zD 0 rfl rfl rfl rfl ?_)))
  refine VO.go (VO.callAt 6 rfl (fun Fr w hF hs hS => greet_spec Fr w (RepIn.pcs hS 0 rfl rfl rfl rfl rfl rfl) ok'.ch ok'.win (by rw [List.length_append]; omega)) rfl (ψ := fun v H => v = .tuple #[] ∧ H = outH b (S ++ T ++ R'.greetM)) (fun v L h => ⟨_, h.2, h.1, rfl⟩) ?_)
  rintro _ _ ⟨rfl, rfl⟩
  (repeat (first|refine zS ?_|refine zR ?_|refine zB ?_|refine zL ?_|refine zC ?_|refine zG (zN ?_)|refine zG (zD 0 rfl rfl rfl rfl ?_)))
  exact Ret.void rfl (repO_shut (R := R') (x := x)).ent ⟨rfl, by rw [hf, List.append_assoc]⟩
end
end Go.Proofs.YtbbnmgakmcppdaaGreat.Rep
namespace Go.Proofs.YtbbnmgakmcppdaaGreat.Rep
open Go Go.Proofs.YtbbnmgakmcppdaaGreat.Vg Go.Proofs.YtbbnmgakmcppdaaGreat.T Go.Proofs.YtbbnmgakmcppdaaGreat.Api Go.Proofs.YtbbnmgakmcppdaaGreat.Kv Go.Proofs.YtbbnmgakmcppdaaGreat.Ch Go.Proofs.YtbbnmgakmcppdaaGreat.Lg Go.Proofs.YtbbnmgakmcppdaaGreat.Rd Go.Proofs.YtbbnmgakmcppdaaGreat.Win Go.Proofs.YtbbnmgakmcppdaaGreat.Adm
set_option linter.unusedSimpArgs false
set_option linter.unusedVariables false
attribute [local irreducible] VO VC VA

def ack1 (R : RepM) (f : FrameM) : RepM := if R.linked then { R with have_ := max R.have_ f.have_ } else { R with linked := true, have_ := f.have_, win := { R.win with sent := min (max f.have_ 0) R.win.last } }
def ack2 (R : RepM) (f : FrameM) : RepM := { ack1 R f with win := { (ack1 R f).win with limit := max (ack1 R f).win.limit (min f.grant 4112) } }
def ackR (R : RepM) (f : FrameM) : RepM × List SndM :=
  ({ ack2 R f with win := (ack2 R f).win.ack f.index }, if (ack2 R f).win.ackB f.index then RepM.greetM { ack2 R f with win := (ack2 R f).win.ack f.index } else [])
theorem ack1_ok {R : RepM} (h : R.Ok) (f : FrameM) : (ack1 R f).Ok := by
  unfold ack1
  split
  · exact ⟨h.ch, h.win, h.last, h.logc, h.logi, h.rc0, h.rc1, h.rl, h.rn0, h.rn1, h.rcl, h.calls, h.wf⟩
  · have hw := h.win
    refine ⟨h.ch, ⟨hw.cap0, hw.cap1, hw.done0, hw.done1, hw.last1, ?_, ?_, hw.lim0, hw.lim1⟩, h.last, h.logc, h.logi, h.rc0, h.rc1, h.rl, h.rn0, h.rn1, h.rcl, h.calls, h.wf⟩
    · show 0 ≤ min (max f.have_ 0) R.win.last
      have := hw.done0; have := hw.done1; omega
    · show min (max f.have_ 0) R.win.last ≤ R.win.last; omega
theorem ack2_ok {R : RepM} (h : R.Ok) (f : FrameM) : (ack2 R f).Ok := by
  have h1 := ack1_ok h f
  have hw := h1.win
  unfold ack2
  refine ⟨h1.ch, ⟨hw.cap0, hw.cap1, hw.done0, hw.done1, hw.last1, hw.sent0, hw.sent1, ?_, ?_⟩, h1.last, h1.logc, h1.logi, h1.rc0, h1.rc1, h1.rl, h1.rn0, h1.rn1, h1.rcl, h1.calls, h1.wf⟩
  · show 0 ≤ max (ack1 R f).win.limit (min f.grant 4112); have := hw.lim0; omega
  · show max (ack1 R f).win.limit (min f.grant 4112) ≤ 4112; have := hw.lim1; omega
theorem ackR_ok {R : RepM} (h : R.Ok) (f : FrameM) : (ackR R f).1.Ok := by
  have h2 := ack2_ok h f
  exact ⟨h2.ch, ack_ok h2.win _, by show ((ack2 R f).win.ack f.index).last = _; rw [ack_last]; exact h2.last, h2.logc, h2.logi, h2.rc0, h2.rc1, h2.rl, h2.rn0, h2.rn1, h2.rcl, h2.calls, h2.wf⟩
section
variable {p : Nat} {R : RepM} {b : Nat} {S : List SndM}
set_option maxRecDepth 100000 in
set_option maxHeartbeats 4000000 in
theorem ack_spec (Fr : Nat → Prop) (w : World) (ok : R.Ok) (hS : S.length ≤ 800000) (f : FrameM) (m : MemG) : Tri Tryz.prog 67 [.pointer (some ⟨p, 0, none⟩), .agg (fgC f m).toArray, sendF b] Fr w [repH p R, outH b S]
    (fun v L => v = .tuple #[] ∧ L = [repH p (ackR R f).1, outH b (S ++ (ackR R f).2)]) := by
  have ok1 := ack1_ok ok f
  have ok2 := ack2_ok ok f
  refine Tri.of 52 Tryz.func67 rfl (by kernel_rfl) tabOk rfl rfl ?_
  refine VC.seq (VC.region (VO.go (VO.boxA (vs := fgC f m) rfl fun fb => VO.go (VO.nil ?_))))
  refine VC.opn 1 rfl (HOpn.rep p R) ?_
  rintro x -
  show VC _ _ _ [pt p (repCs R x) repT, slH memT 2 x.a R.ch.ms.length x.c (flat memC R.ch.ms), logH x.lp R.log, winH x.wp R.win, admH x.ap R.adm, rdsH x.rp R.rds, pt fb (fgC f m) frT, outH b S] _
  refine VC.seq ?_
  refine VC.meetS (σ := Unit) (fun _ => [(0, .pointer (some ⟨p, 0, none⟩)), (2, sendF b), (4, .pointer (some ⟨fb, 0, none⟩))]) (fun _ => [pt p (repCs (ack1 R f) x) repT, slH memT 2 x.a R.ch.ms.length x.c (flat memC R.ch.ms), logH x.lp R.log, winH x.wp (ack1 R f).win, admH x.ap R.adm, rdsH x.rp R.rds, pt fb (fgC f m) frT, outH b S]) (fun _ => True) ?_ ?_
  · (repeat (first|refine zS ?_|refine zR ?_|refine zB ?_|refine zL ?_|refine zC ?_|refine zG (zN ?_)|refine zG (zD 0 rfl rfl rfl rfl ?_)))
    cases hl : R.linked with
    | true =>
      have e : ack1 R f = { R with have_ := max R.have_ f.have_ } := by rw [ack1, hl]; rfl
      refine VC.condT rfl ?_
      refine VC.draw (ts 0 10 (.only 10 .nil)) (by kernel_rfl) (by decide +kernel) ?_
      (repeat (first|refine yG (yN ?_)|refine yG (yD 0 rfl rfl rfl rfl rfl ?_)|refine yG (yD 1 rfl rfl rfl rfl rfl ?_)|refine yG (yD 2 rfl rfl rfl rfl rfl ?_)|refine yG (yD 3 rfl rfl rfl rfl rfl ?_)|refine yG (yD 4 rfl rfl rfl rfl rfl ?_)|refine yG (yD 5 rfl rfl rfl rfl rfl ?_)|refine yG (yD 6 rfl rfl rfl rfl rfl ?_)))
      refine VA.go (VA.st 0 (cs' := repCs { R with have_ := if R.have_ < f.have_ then f.have_ else R.have_ } x) rfl rfl rfl rfl rfl (Nat.le_of_ble_eq_true rfl) rfl rfl (by (try refine Pd.st ?_);(repeat (first|exact Pd.nil|exact Pd.fnil|refine Pd.inner ?_|refine Pd.skip (by decide +kernel) ?_|refine zf (zo 0 rfl rfl) ?_|refine zf (zo 1 rfl rfl) ?_|refine zf (zo 2 rfl rfl) ?_|refine zf (zo 3 rfl rfl) ?_|refine zf (zo 4 rfl rfl) ?_|refine zf (zo 5 rfl rfl) ?_|refine zf (zo 6 rfl rfl) ?_|refine zf (zm 0 rfl rfl) ?_|refine zf (zm 1 rfl rfl) ?_|refine zf (zm 2 rfl rfl) ?_|refine zf (zm 3 rfl rfl) ?_|refine zf (zm 4 rfl rfl) ?_|refine zf (zm 5 rfl rfl) ?_|refine zf (zm 6 rfl rfl) ?_|refine zc (zo 0 rfl rfl) ?_|refine zc (zo 1 rfl rfl) ?_|refine zc (zo 2 rfl rfl) ?_|refine zc (zo 3 rfl rfl) ?_|refine zc (zo 4 rfl rfl) ?_|refine zc (zo 5 rfl rfl) ?_|refine zc (zo 6 rfl rfl) ?_|refine zc (zm 0 rfl rfl) ?_|refine zc (zm 1 rfl rfl) ?_|refine zc (zm 2 rfl rfl) ?_|refine zc (zm 3 rfl rfl) ?_|refine zc (zm 4 rfl rfl) ?_|refine zc (zm 5 rfl rfl) ?_|refine zc (zm 6 rfl rfl) ?_))) ?_)
      (repeat (first|refine yG (yN ?_)|refine yG (yD 0 rfl rfl rfl rfl rfl ?_)))
      exact ⟨(), trivial, Sub.cons rfl (Sub.cons rfl (Sub.cons rfl (Sub.nil _))), by rw [e, show max R.have_ f.have_ = (if R.have_ < f.have_ then f.have_ else R.have_) by split <;> omega]; exact Ent.refl⟩
    | false =>
      have e : ack1 R f = { R with linked := true, have_ := f.have_, win := { R.win with sent := min (max f.have_ 0) R.win.last } } := by rw [ack1, hl]; rfl
      refine VC.condF rfl ?_
      refine VC.seq (VC.draw (ts 0 6 (.only 6 (ts 7 2 (.only 9 .nil)))) (by kernel_rfl) (by decide +kernel) ?_)
      (repeat (first|refine yG (yN ?_)|refine yG (yD 0 rfl rfl rfl rfl rfl ?_)|refine yG (yD 1 rfl rfl rfl rfl rfl ?_)|refine yG (yD 2 rfl rfl rfl rfl rfl ?_)|refine yG (yD 3 rfl rfl rfl rfl rfl ?_)|refine yG (yD 4 rfl rfl rfl rfl rfl ?_)|refine yG (yD 5 rfl rfl rfl rfl rfl ?_)|refine yG (yD 6 rfl rfl rfl rfl rfl ?_)))
      refine VA.go (VA.st 0 (cs' := repCs { R with linked := true } x) rfl rfl rfl rfl rfl (Nat.le_of_ble_eq_true rfl) rfl rfl (by (try refine Pd.st ?_);(repeat (first|exact Pd.nil|exact Pd.fnil|refine Pd.inner ?_|refine Pd.skip (by decide +kernel) ?_|refine zf (zo 0 rfl rfl) ?_|refine zf (zo 1 rfl rfl) ?_|refine zf (zo 2 rfl rfl) ?_|refine zf (zo 3 rfl rfl) ?_|refine zf (zo 4 rfl rfl) ?_|refine zf (zo 5 rfl rfl) ?_|refine zf (zo 6 rfl rfl) ?_|refine zf (zm 0 rfl rfl) ?_|refine zf (zm 1 rfl rfl) ?_|refine zf (zm 2 rfl rfl) ?_|refine zf (zm 3 rfl rfl) ?_|refine zf (zm 4 rfl rfl) ?_|refine zf (zm 5 rfl rfl) ?_|refine zf (zm 6 rfl rfl) ?_|refine zc (zo 0 rfl rfl) ?_|refine zc (zo 1 rfl rfl) ?_|refine zc (zo 2 rfl rfl) ?_|refine zc (zo 3 rfl rfl) ?_|refine zc (zo 4 rfl rfl) ?_|refine zc (zo 5 rfl rfl) ?_|refine zc (zo 6 rfl rfl) ?_|refine zc (zm 0 rfl rfl) ?_|refine zc (zm 1 rfl rfl) ?_|refine zc (zm 2 rfl rfl) ?_|refine zc (zm 3 rfl rfl) ?_|refine zc (zm 4 rfl rfl) ?_|refine zc (zm 5 rfl rfl) ?_|refine zc (zm 6 rfl rfl) ?_))) ?_)
      (repeat (first|refine yG (yN ?_)|refine yG (yD 0 rfl rfl rfl rfl rfl ?_)|refine yG (yD 1 rfl rfl rfl rfl rfl ?_)|refine yG (yD 2 rfl rfl rfl rfl rfl ?_)|refine yG (yD 3 rfl rfl rfl rfl rfl ?_)|refine yG (yD 4 rfl rfl rfl rfl rfl ?_)|refine yG (yD 5 rfl rfl rfl rfl rfl ?_)|refine yG (yD 6 rfl rfl rfl rfl rfl ?_)))
      refine VA.go (VA.st 0 (cs' := repCs { R with linked := true, have_ := f.have_ } x) rfl rfl rfl rfl rfl (Nat.le_of_ble_eq_true rfl) rfl rfl (by (try refine Pd.st ?_);(repeat (first|exact Pd.nil|exact Pd.fnil|refine Pd.inner ?_|refine Pd.skip (by decide +kernel) ?_|refine zf (zo 0 rfl rfl) ?_|refine zf (zo 1 rfl rfl) ?_|refine zf (zo 2 rfl rfl) ?_|refine zf (zo 3 rfl rfl) ?_|refine zf (zo 4 rfl rfl) ?_|refine zf (zo 5 rfl rfl) ?_|refine zf (zo 6 rfl rfl) ?_|refine zf (zm 0 rfl rfl) ?_|refine zf (zm 1 rfl rfl) ?_|refine zf (zm 2 rfl rfl) ?_|refine zf (zm 3 rfl rfl) ?_|refine zf (zm 4 rfl rfl) ?_|refine zf (zm 5 rfl rfl) ?_|refine zf (zm 6 rfl rfl) ?_|refine zc (zo 0 rfl rfl) ?_|refine zc (zo 1 rfl rfl) ?_|refine zc (zo 2 rfl rfl) ?_|refine zc (zo 3 rfl rfl) ?_|refine zc (zo 4 rfl rfl) ?_|refine zc (zo 5 rfl rfl) ?_|refine zc (zo 6 rfl rfl) ?_|refine zc (zm 0 rfl rfl) ?_|refine zc (zm 1 rfl rfl) ?_|refine zc (zm 2 rfl rfl) ?_|refine zc (zm 3 rfl rfl) ?_|refine zc (zm 4 rfl rfl) ?_|refine zc (zm 5 rfl rfl) ?_|refine zc (zm 6 rfl rfl) ?_))) ?_)
      (repeat (first|refine yG (yN ?_)|refine yG (yD 0 rfl rfl rfl rfl rfl ?_)))
      refine VC.draw (ts 0 6 (.only 6 .nil)) (by kernel_rfl) (by decide +kernel) ?_
      (repeat (first|refine yG (yN ?_)|refine yG (yD 0 rfl rfl rfl rfl rfl ?_)|refine yG (yD 1 rfl rfl rfl rfl rfl ?_)|refine yG (yD 2 rfl rfl rfl rfl rfl ?_)|refine yG (yD 3 rfl rfl rfl rfl rfl ?_)|refine yG (yD 4 rfl rfl rfl rfl rfl ?_)|refine yG (yD 5 rfl rfl rfl rfl rfl ?_)|refine yG (yD 6 rfl rfl rfl rfl rfl ?_)))
      refine VA.go (VA.callAt 3 rfl (fun Fr w hF hs hS => Win.back_spec Fr w ok.win f.have_) rfl rfl (ψ := fun v H => v = .tuple #[] ∧ H = winH x.wp { R.win with sent := min (max f.have_ 0) R.win.last }) (fun v L h => ⟨_, h.2, h.1, rfl⟩) ?_ ?_)
      · rintro _ _ ⟨rfl, rfl⟩
        exact (by (try refine Pd.st ?_);(repeat (first|exact Pd.nil|exact Pd.fnil|refine Pd.inner ?_|refine Pd.skip (by decide +kernel) ?_|refine zf (zo 0 rfl rfl) ?_|refine zf (zo 1 rfl rfl) ?_|refine zf (zo 2 rfl rfl) ?_|refine zf (zo 3 rfl rfl) ?_|refine zf (zo 4 rfl rfl) ?_|refine zf (zo 5 rfl rfl) ?_|refine zf (zo 6 rfl rfl) ?_|refine zf (zm 0 rfl rfl) ?_|refine zf (zm 1 rfl rfl) ?_|refine zf (zm 2 rfl rfl) ?_|refine zf (zm 3 rfl rfl) ?_|refine zf (zm 4 rfl rfl) ?_|refine zf (zm 5 rfl rfl) ?_|refine zf (zm 6 rfl rfl) ?_|refine zc (zo 0 rfl rfl) ?_|refine zc (zo 1 rfl rfl) ?_|refine zc (zo 2 rfl rfl) ?_|refine zc (zo 3 rfl rfl) ?_|refine zc (zo 4 rfl rfl) ?_|refine zc (zo 5 rfl rfl) ?_|refine zc (zo 6 rfl rfl) ?_|refine zc (zm 0 rfl rfl) ?_|refine zc (zm 1 rfl rfl) ?_|refine zc (zm 2 rfl rfl) ?_|refine zc (zm 3 rfl rfl) ?_|refine zc (zm 4 rfl rfl) ?_|refine zc (zm 5 rfl rfl) ?_|refine zc (zm 6 rfl rfl) ?_)))
      rintro _ _ ⟨rfl, rfl⟩
      (repeat (first|refine yG (yN ?_)|refine yG (yD 0 rfl rfl rfl rfl rfl ?_)))
      exact ⟨(), trivial, Sub.cons rfl (Sub.cons rfl (Sub.cons rfl (Sub.nil _))), by rw [e]; exact Ent.refl⟩
  rintro _ -
  have e1 : (ack1 R f).ch = R.ch ∧ (ack1 R f).log = R.log ∧ (ack1 R f).adm = R.adm ∧ (ack1 R f).rds = R.rds := by unfold ack1; split <;> exact ⟨rfl, rfl, rfl, rfl⟩
  refine VC.seq (VC.draw (ts 0 6 (.only 6 .nil)) (by kernel_rfl) (by decide +kernel) ?_)
  (repeat (first|refine yG (yN ?_)|refine yG (yD 0 rfl rfl rfl rfl rfl ?_)|refine yG (yD 1 rfl rfl rfl rfl rfl ?_)|refine yG (yD 2 rfl rfl rfl rfl rfl ?_)|refine yG (yD 3 rfl rfl rfl rfl rfl ?_)|refine yG (yD 4 rfl rfl rfl rfl rfl ?_)|refine yG (yD 5 rfl rfl rfl rfl rfl ?_)|refine yG (yD 6 rfl rfl rfl rfl rfl ?_)))
  refine VA.go (VA.callAt 3 rfl (fun Fr w hF hs hS => Win.grant_spec Fr w ok1.win f.grant) rfl rfl (ψ := fun v H => v = .tuple #[] ∧ H = winH x.wp (ack2 R f).win) (fun v L h => ⟨_, h.2, h.1, rfl⟩) ?_ ?_)
  · rintro _ _ ⟨rfl, rfl⟩
    exact (by (try refine Pd.st ?_);(repeat (first|exact Pd.nil|exact Pd.fnil|refine Pd.inner ?_|refine Pd.skip (by decide +kernel) ?_|refine zf (zo 0 rfl rfl) ?_|refine zf (zo 1 rfl rfl) ?_|refine zf (zo 2 rfl rfl) ?_|refine zf (zo 3 rfl rfl) ?_|refine zf (zo 4 rfl rfl) ?_|refine zf (zo 5 rfl rfl) ?_|refine zf (zo 6 rfl rfl) ?_|refine zf (zm 0 rfl rfl) ?_|refine zf (zm 1 rfl rfl) ?_|refine zf (zm 2 rfl rfl) ?_|refine zf (zm 3 rfl rfl) ?_|refine zf (zm 4 rfl rfl) ?_|refine zf (zm 5 rfl rfl) ?_|refine zf (zm 6 rfl rfl) ?_|refine zc (zo 0 rfl rfl) ?_|refine zc (zo 1 rfl rfl) ?_|refine zc (zo 2 rfl rfl) ?_|refine zc (zo 3 rfl rfl) ?_|refine zc (zo 4 rfl rfl) ?_|refine zc (zo 5 rfl rfl) ?_|refine zc (zo 6 rfl rfl) ?_|refine zc (zm 0 rfl rfl) ?_|refine zc (zm 1 rfl rfl) ?_|refine zc (zm 2 rfl rfl) ?_|refine zc (zm 3 rfl rfl) ?_|refine zc (zm 4 rfl rfl) ?_|refine zc (zm 5 rfl rfl) ?_|refine zc (zm 6 rfl rfl) ?_)))
  rintro _ _ ⟨rfl, rfl⟩
  (repeat (first|refine yG (yN ?_)|refine yG (yD 0 rfl rfl rfl rfl rfl ?_)))
  refine VC.seq (VC.draw (ts 0 6 (.only 6 .nil)) (by kernel_rfl) (by decide +kernel) ?_)
  (repeat (first|refine yG (yN ?_)|refine yG (yD 0 rfl rfl rfl rfl rfl ?_)|refine yG (yD 1 rfl rfl rfl rfl rfl ?_)|refine yG (yD 2 rfl rfl rfl rfl rfl ?_)|refine yG (yD 3 rfl rfl rfl rfl rfl ?_)|refine yG (yD 4 rfl rfl rfl rfl rfl ?_)|refine yG (yD 5 rfl rfl rfl rfl rfl ?_)|refine yG (yD 6 rfl rfl rfl rfl rfl ?_)))
  refine VA.go (VA.callAt 3 rfl (fun Fr w hF hs hS => Win.ack_spec Fr w ok2.win f.index) rfl rfl (ψ := fun v H => v = .bool ((ack2 R f).win.ackB f.index) ∧ H = winH x.wp ((ack2 R f).win.ack f.index)) (fun v L h => ⟨_, h.2, h.1, rfl⟩) ?_ ?_)
  · rintro _ _ ⟨rfl, rfl⟩
    exact (by (try refine Pd.st ?_);(repeat (first|exact Pd.nil|exact Pd.fnil|refine Pd.inner ?_|refine Pd.skip (by decide +kernel) ?_|refine zf (zo 0 rfl rfl) ?_|refine zf (zo 1 rfl rfl) ?_|refine zf (zo 2 rfl rfl) ?_|refine zf (zo 3 rfl rfl) ?_|refine zf (zo 4 rfl rfl) ?_|refine zf (zo 5 rfl rfl) ?_|refine zf (zo 6 rfl rfl) ?_|refine zf (zm 0 rfl rfl) ?_|refine zf (zm 1 rfl rfl) ?_|refine zf (zm 2 rfl rfl) ?_|refine zf (zm 3 rfl rfl) ?_|refine zf (zm 4 rfl rfl) ?_|refine zf (zm 5 rfl rfl) ?_|refine zf (zm 6 rfl rfl) ?_|refine zc (zo 0 rfl rfl) ?_|refine zc (zo 1 rfl rfl) ?_|refine zc (zo 2 rfl rfl) ?_|refine zc (zo 3 rfl rfl) ?_|refine zc (zo 4 rfl rfl) ?_|refine zc (zo 5 rfl rfl) ?_|refine zc (zo 6 rfl rfl) ?_|refine zc (zm 0 rfl rfl) ?_|refine zc (zm 1 rfl rfl) ?_|refine zc (zm 2 rfl rfl) ?_|refine zc (zm 3 rfl rfl) ?_|refine zc (zm 4 rfl rfl) ?_|refine zc (zm 5 rfl rfl) ?_|refine zc (zm 6 rfl rfl) ?_)))
  rintro _ _ ⟨rfl, rfl⟩
  (repeat (first|refine yG (yN ?_)|refine yG (yD 0 rfl rfl rfl rfl rfl ?_)))
  have oka := ackR_ok ok f
  have hrep : repL p (ackR R f).1 x = [pt p (repCs (ack1 R f) x) repT, slH memT 2 x.a R.ch.ms.length x.c (flat memC R.ch.ms), logH x.lp R.log, winH x.wp ((ack2 R f).win.ack f.index), admH x.ap R.adm, rdsH x.rp R.rds] := by
    show [pt p (repCs (ack1 R f) x) repT, slH memT 2 x.a (ack1 R f).ch.ms.length x.c (flat memC (ack1 R f).ch.ms), logH x.lp (ack1 R f).log, _, admH x.ap (ack1 R f).adm, rdsH x.rp (ack1 R f).rds] = _
    rw [e1.1, e1.2.1, e1.2.2.1, e1.2.2.2]; rfl
  refine VC.ent (L' := repL p (ackR R f).1 x ++ [outH b S]) (by rw [hrep]; exact (Imp.pick 0 rfl (Imp.pick 0 rfl (Imp.pick 0 rfl (Imp.pick 0 rfl (Imp.pick 0 rfl (Imp.pick 0 rfl (Imp.pick 1 rfl Imp.nil))))))).ent) ?_
  refine VC.cond rfl (fun hb => ?_) (fun hb => VC.skip ?_)
  · (repeat (first|refine zS ?_|refine zR ?_|refine zB ?_|refine zL ?_|refine zC ?_|refine zG (zN ?_)|refine zG (zD 0 rfl rfl rfl rfl ?_)))
    refine VO.go (VO.callAt 6 rfl (fun Fr w hF hs hS => greet_spec (R := (ackR R f).1) Fr w (RepIn.pcs hS 0 rfl rfl rfl rfl rfl rfl) oka.ch oka.win (by omega)) rfl (ψ := fun v H => v = .tuple #[] ∧ H = outH b (S ++ (ackR R f).1.greetM)) (fun v L h => ⟨_, h.2, h.1, rfl⟩) ?_)
    rintro _ _ ⟨rfl, rfl⟩
    (repeat (first|refine zS ?_|refine zR ?_|refine zB ?_|refine zL ?_|refine zC ?_|refine zG (zN ?_)|refine zG (zD 0 rfl rfl rfl rfl ?_)))
    exact Ret.void rfl (repO_shut (R := (ackR R f).1) (x := x)).ent ⟨rfl, by rw [show (ackR R f).2 = (ackR R f).1.greetM by rw [ackR, hb]; rfl]⟩
  · exact Ret.void rfl (repO_shut (R := (ackR R f).1) (x := x)).ent ⟨rfl, by rw [show (ackR R f).2 = [] by rw [ackR, hb]; rfl, List.append_nil]⟩
/-! ### Entries that may be sent -/
def forwardF (epoch : Int) (e : EntryM) : FrameM := { FrameM.zero with kind := 4, epoch := epoch, entry := e }
/-- So many are sent, one after the other. -/
def passN (R : RepM) : Nat → WinM × List SndM
  | 0 => (R.win, [])
  | k + 1 => ((passN R k).1.next, (passN R k).2 ++ [(R.nextM, forwardF R.ch.epoch ((atI R.log ((passN R k).1.sent + 1)).getD entZ))])
def passK (R : RepM) : Nat := (min R.win.last R.win.limit - R.win.sent).toNat
def passR (R : RepM) : RepM × List SndM := ({ R with win := (passN R (passK R)).1 }, (passN R (passK R)).2)
theorem passN_win (R : RepM) : ∀ k, k ≤ passK R → (passN R k).1 = { R.win with sent := R.win.sent + k }
  | 0, _ => by simp [passN]
  | k + 1, h => by
    unfold passK at h
    rw [passN, passN_win R k (by unfold passK; omega)]
    have hb : ({ R.win with sent := R.win.sent + k } : WinM).nextB = true := by simp only [WinM.nextB, Bool.and_eq_true, decide_eq_true_eq]; omega
    rw [WinM.next, if_pos hb]
    have : R.win.sent + (k : Int) + 1 = R.win.sent + ((k + 1 : Nat) : Int) := by push_cast; omega
    show WinM.mk _ _ _ (R.win.sent + (k : Int) + 1) _ = WinM.mk _ _ _ (R.win.sent + ((k + 1 : Nat) : Int)) _
    rw [this]
theorem passN_len (R : RepM) : ∀ k, (passN R k).2.length = k
  | 0 => rfl
  | k + 1 => by rw [passN, List.length_append, passN_len R k]; rfl
theorem next_ok {W : WinM} (h : W.Ok) : W.next.Ok := by
  unfold WinM.next
  split
  · rename_i hb
    simp only [WinM.nextB, Bool.and_eq_true, decide_eq_true_eq] at hb
    have := h.sent0
    exact ⟨h.cap0, h.cap1, h.done0, h.done1, h.last1, by show 0 ≤ W.sent + 1; omega, by show W.sent + 1 ≤ W.last; omega, h.lim0, h.lim1⟩
  · exact h
theorem passN_ok {R : RepM} (h : R.Ok) : ∀ k, (passN R k).1.Ok
  | 0 => h.win
  | k + 1 => next_ok (passN_ok h k)
end
section
variable {p : Nat} {R : RepM} {b : Nat} {S : List SndM}
set_option maxRecDepth 100000 in
set_option maxHeartbeats 4000000 in
theorem pass_spec (Fr : Nat → Prop) (w : World) (ok : R.Ok) (hS : S.length ≤ 800000) : Tri Tryz.prog 86 [.pointer (some ⟨p, 0, none⟩), sendF b] Fr w [repH p R, outH b S]
    (fun v L => v = .tuple #[] ∧ L = [repH p (passR R).1, outH b (S ++ (passR R).2)]) := by
  have w1 := ok.win.last1; have w2 := ok.win.sent0; have w3 := ok.win.sent1; have w4 := ok.win.lim1; have w5 := ok.win.lim0
  have hlast := ok.last
  have hK : passK R ≤ 4096 := by unfold passK; omega
  refine Tri.of 47 Tryz.func86 rfl (by kernel_rfl) tabOk rfl rfl ?_
  refine VC.opn 0 rfl (HOpn.rep p R) ?_
  rintro x -
  show VC _ _ _ (repO p R x b S) _
  unfold repO
  (repeat (first|refine zS ?_|refine zR ?_|refine zB ?_|refine zL ?_|refine zC ?_|refine zG (zN ?_)|refine zG (zD 0 rfl rfl rfl rfl ?_)))
  refine VO.go (VO.callV' (fun Fr w hF hs hS => Rep.next_spec Fr w (hS.blk 0 rfl) (RwIn.slH memC_len (hS.at_ 1 rfl)) ok.ch) rfl ?_)
  (repeat (first|refine zS ?_|refine zR ?_|refine zB ?_|refine zL ?_|refine zC ?_|refine zG (zN ?_)|refine zG (zD 0 rfl rfl rfl rfl ?_)))
  have hnx : ∀ k, k ≤ passK R → ((passN R k).1.nextB = decide (k < passK R)) := fun k hk => by
    rw [passN_win R k hk]
    unfold passK at hk ⊢
    simp only [WinM.nextB]
    by_cases h : (R.win.sent + (k : Int) < R.win.last) ∧ (R.win.sent + (k : Int) < R.win.limit)
    · rw [decide_eq_true h.1, decide_eq_true h.2, decide_eq_true (by omega)]; rfl
    · rw [decide_eq_false (show ¬ k < (min R.win.last R.win.limit - R.win.sent).toNat by omega)]
      by_cases h1 : R.win.sent + (k : Int) < R.win.last
      · rw [decide_eq_true h1, decide_eq_false (fun h2 => h ⟨h1, h2⟩)]; rfl
      · rw [decide_eq_false h1]; rfl
  refine VO.go (VO.callAt 3 rfl (fun Fr w hF hs hS => Win.next_spec Fr w ok.win) rfl (ψ := fun v H => v = .tuple #[.int .i64 (if R.win.nextB then R.win.sent + 1 else 0), .bool R.win.nextB] ∧ H = winH x.wp R.win.next) (fun v L h => ⟨_, h.2, h.1, rfl⟩) ?_)
  rintro _ _ ⟨rfl, rfl⟩
  (repeat (first|refine zS ?_|refine zR ?_|refine zB ?_|refine zL ?_|refine zC ?_|refine zG (zN ?_)|refine zG (zD 0 rfl rfl rfl rfl ?_)))
  refine VC.loop (σ := Nat) (fun k => [(0, .pointer (some ⟨p, 0, none⟩)), (1, sendF b), (4, .int .i64 R.nextM), (5, .int .i64 (if (passN R k).1.nextB then (passN R k).1.sent + 1 else 0)), (6, .bool (passN R k).1.nextB)])
    (fun k => [pt p (repCs R x) repT, slH memT 2 x.a R.ch.ms.length x.c (flat memC R.ch.ms), logH x.lp R.log, winH x.wp (passN R k).1.next, admH x.ap R.adm, rdsH x.rp R.rds, outH b (S ++ (passN R k).2)])
    (fun k => k ≤ passK R) (fun k => passK R - k) 0
    (Nat.zero_le _) (Sub.cons rfl (Sub.cons rfl (Sub.cons rfl (Sub.cons rfl (Sub.cons rfl (Sub.nil _)))))) (by rw [show (passN R 0).2 = [] from rfl, List.append_nil]; exact Ent.refl) ?_
  intro k hk
  have hnk := hnx k hk
  have hwk := passN_win R k hk
  have hpl := passN_len R k
  have hok := passN_ok ok k
  (repeat (first|refine zS ?_|refine zR ?_|refine zB ?_|refine zL ?_|refine zC ?_|refine zG (zN ?_)|refine zG (zD 0 rfl rfl rfl rfl ?_)))
  refine VC.cond rfl (fun h1 => VC.skip ?_) (fun h1 => VC.exit ?_)
  · have hk2 : k < passK R := by rw [h1] at hnk; exact of_decide_eq_true hnk.symm
    have hs1 : (passN R k).1.sent = R.win.sent + k := by rw [hwk]
    have hbd : R.win.sent + (k : Int) < R.win.last := by unfold passK at hk2; omega
    have hwk2 : (passN R (k + 1)).1 = (passN R k).1.next := rfl
    rw [h1]
    obtain ⟨j, e, hj1, hj2, hj3, hj4⟩ := atI_some (l := R.log) (i := (passN R k).1.sent + 1) (by omega) (by omega)
    refine VC.seq (VC.block ?_)
    (repeat (first|refine zS ?_|refine zR ?_|refine zB ?_|refine zL ?_|refine zC ?_|refine zG (zN ?_)|refine zG (zD 0 rfl rfl rfl rfl ?_)))
    refine VO.go (VO.callV' (fun Fr w hF hs hS => Lg.at_spec Fr w (hS.at_ 2 rfl) ((passN R k).1.sent + 1) (by omega) (by omega)) rfl ?_)
    (repeat (first|refine zS ?_|refine zR ?_|refine zB ?_|refine zL ?_|refine zC ?_|refine zG (zN ?_)|refine zG (zD 0 rfl rfl rfl rfl ?_)))
    refine VO.go (VO.alloc rfl fun eb => ?_)
    refine VO.go (VO.stA (vs := entC ((atI R.log ((passN R k).1.sent + 1)).getD entZ)) 0 rfl rfl rfl rfl (Nat.le_refl _) rfl rfl rfl (VO.go (VO.nil ?_)))
    refine VC.draw (ts 0 9 (.only 9 .nil)) (by kernel_rfl) (by decide +kernel) ?_
    (repeat (first|refine yG (yN ?_)|refine yG (yD 0 rfl rfl rfl rfl rfl ?_)|refine yG (yD 1 rfl rfl rfl rfl rfl ?_)))
    refine VA.go (VA.ldA 0 (entC ((atI R.log ((passN R k).1.sent + 1)).getD entZ)) rfl rfl rfl rfl rfl ?_)
    refine VA.go (VA.light rfl (light_build (pv := [(0, .int .i64 4), (1, .int .i64 R.ch.epoch), (10, .agg (entC ((atI R.log ((passN R k).1.sent + 1)).getD entZ)).toArray)]) (fgC (forwardF R.ch.epoch ((atI R.log ((passN R k).1.sent + 1)).getD entZ)) mem0) rfl rfl rfl (by kernel_rfl) rfl) ?_)
    refine VA.go (VA.callFAt 7 rfl rfl (fun Fr w hF hs _ => add_spec Fr w b (S ++ (passN R k).2) (by rw [List.length_append]; omega) R.nextM (forwardF R.ch.epoch ((atI R.log ((passN R k).1.sent + 1)).getD entZ))) rfl rfl (ψ := fun v H => v = .tuple #[] ∧ H = outH b (S ++ (passN R k).2 ++ [(R.nextM, forwardF R.ch.epoch ((atI R.log ((passN R k).1.sent + 1)).getD entZ))])) (fun v L h => ⟨_, h.2, h.1, rfl⟩) ?_ ?_)
    · rintro _ _ ⟨rfl, rfl⟩
      exact (by (try refine Pd.st ?_);(repeat (first|exact Pd.nil|exact Pd.fnil|refine Pd.inner ?_|refine Pd.skip (by decide +kernel) ?_|refine zf (zo 0 rfl rfl) ?_|refine zf (zo 1 rfl rfl) ?_|refine zf (zo 2 rfl rfl) ?_|refine zf (zo 3 rfl rfl) ?_|refine zf (zo 4 rfl rfl) ?_|refine zf (zo 5 rfl rfl) ?_|refine zf (zo 6 rfl rfl) ?_|refine zf (zo 7 rfl rfl) ?_|refine zf (zm 0 rfl rfl) ?_|refine zf (zm 1 rfl rfl) ?_|refine zf (zm 2 rfl rfl) ?_|refine zf (zm 3 rfl rfl) ?_|refine zf (zm 4 rfl rfl) ?_|refine zf (zm 5 rfl rfl) ?_|refine zf (zm 6 rfl rfl) ?_|refine zf (zm 7 rfl rfl) ?_|refine zc (zo 0 rfl rfl) ?_|refine zc (zo 1 rfl rfl) ?_|refine zc (zo 2 rfl rfl) ?_|refine zc (zo 3 rfl rfl) ?_|refine zc (zo 4 rfl rfl) ?_|refine zc (zo 5 rfl rfl) ?_|refine zc (zo 6 rfl rfl) ?_|refine zc (zo 7 rfl rfl) ?_|refine zc (zm 0 rfl rfl) ?_|refine zc (zm 1 rfl rfl) ?_|refine zc (zm 2 rfl rfl) ?_|refine zc (zm 3 rfl rfl) ?_|refine zc (zm 4 rfl rfl) ?_|refine zc (zm 5 rfl rfl) ?_|refine zc (zm 6 rfl rfl) ?_|refine zc (zm 7 rfl rfl) ?_)))
    rintro _ _ ⟨rfl, rfl⟩
    (repeat (first|refine yG (yN ?_)|refine yG (yD 0 rfl rfl rfl rfl rfl ?_)))
    (repeat (first|refine zS ?_|refine zR ?_|refine zB ?_|refine zL ?_|refine zC ?_|refine zG (zN ?_)|refine zG (zD 0 rfl rfl rfl rfl ?_)|refine zG (zD 1 rfl rfl rfl rfl ?_)))
    refine VO.go (VO.callAt 4 rfl (fun Fr w hF hs hS => Win.next_spec Fr w (next_ok hok)) rfl (ψ := fun v H => v = .tuple #[.int .i64 (if (passN R (k + 1)).1.nextB then (passN R (k + 1)).1.sent + 1 else 0), .bool (passN R (k + 1)).1.nextB] ∧ H = winH x.wp (passN R (k + 1)).1.next) (fun v L h => ⟨_, h.2, h.1, rfl⟩) ?_)
    rintro _ _ ⟨rfl, rfl⟩
    (repeat (first|refine zS ?_|refine zR ?_|refine zB ?_|refine zL ?_|refine zC ?_|refine zG (zN ?_)|refine zG (zD 0 rfl rfl rfl rfl ?_)))
    refine ⟨k + 1, hk2, by dsimp only; omega, Sub.cons rfl (Sub.cons rfl (Sub.cons rfl (Sub.cons rfl (Sub.cons rfl (Sub.nil _))))), ?_⟩
    dsimp only
    rw [show (passN R (k + 1)).2 = (passN R k).2 ++ [(R.nextM, forwardF R.ch.epoch ((atI R.log ((passN R k).1.sent + 1)).getD entZ))] from rfl, ← List.append_assoc]
    exact (Imp.pick 1 rfl (Imp.pick 1 rfl (Imp.pick 1 rfl (Imp.pick 1 rfl (Imp.pick 1 rfl (Imp.pick 1 rfl (Imp.pick 1 rfl Imp.nil))))))).ent
  · have hk2 : k = passK R := by
      rw [h1] at hnk
      have : ¬ k < passK R := of_decide_eq_false hnk.symm
      omega
    have hwn : (passN R k).1.next = (passN R k).1 := by rw [WinM.next, h1]; rfl
    rw [hwn, hk2]
    exact Ret.void rfl (Imp.rep (R := (passR R).1) x (Imp.pick 0 rfl (Imp.pick 0 rfl (Imp.pick 0 rfl (Imp.pick 0 rfl (Imp.pick 0 rfl (Imp.pick 0 rfl (Imp.pick 0 rfl Imp.nil)))))))).ent ⟨rfl, rfl⟩
end
end Go.Proofs.YtbbnmgakmcppdaaGreat.Rep
namespace Go.Proofs.YtbbnmgakmcppdaaGreat.Rep
open Go Go.Proofs.YtbbnmgakmcppdaaGreat.Vg Go.Proofs.YtbbnmgakmcppdaaGreat.T Go.Proofs.YtbbnmgakmcppdaaGreat.Api Go.Proofs.YtbbnmgakmcppdaaGreat.Kv Go.Proofs.YtbbnmgakmcppdaaGreat.Ch Go.Proofs.YtbbnmgakmcppdaaGreat.Lg Go.Proofs.YtbbnmgakmcppdaaGreat.Rd Go.Proofs.YtbbnmgakmcppdaaGreat.Win Go.Proofs.YtbbnmgakmcppdaaGreat.Adm Go.Proofs.YtbbnmgakmcppdaaGreat.Sched
set_option linter.unusedSimpArgs false
set_option linter.unusedVariables false
attribute [local irreducible] VO VC VA

def refs (epoch : Int) (gs : List FrameM) (reason : Int) : List SndM := gs.map fun f => (32 + f.client, refuseF epoch f reason)
def nextF (R : RepM) (now : Int) : FrameM := (popV (R.adm.expireM now).sch).1
def nextOk (R : RepM) (now : Int) : Bool := (popV (R.adm.expireM now).sch).2.1
def nextE (R : RepM) (now : Int) : EntryM := ⟨R.log.length + 1, (nextF R now).client, (nextF R now).seq, (nextF R now).op⟩
def nextA (R : RepM) (now : Int) : RepM := { R with adm := R.adm.nextM now }
def serveR (R : RepM) (now : Int) : RepM × List SndM × Bool :=
  if nextOk R now = false then (nextA R now, refs R.ch.epoch (R.adm.sch.goneM now) 2, false)
  else if logErr R.log (nextE R now) ≠ 0 then ({ R with adm := ((R.adm.nextM now).barM (nextF R now).client (nextF R now).seq (nextF R now).try_).2 }, refs R.ch.epoch (R.adm.sch.goneM now) 2 ++ [(32 + (nextF R now).client, refuseF R.ch.epoch (nextF R now) 7)], true)
  else ((pushE (nextA R now) (nextE R now)).finishR, refs R.ch.epoch (R.adm.sch.goneM now) 2 ++ (pushE (nextA R now) (nextE R now)).finishM, true)
theorem nextA_ok {R : RepM} (h : R.Ok) (now : Int) : (nextA R now).Ok := ⟨h.ch, h.win, h.last, h.logc, h.logi, h.rc0, h.rc1, h.rl, h.rn0, h.rn1, h.rcl, next_calls h.wf h.calls now, next_wf h.wf now⟩
theorem barM_calls {A : AdmM} (h : A.Calls) (k s t : Int) : (A.barM k s t).2.Calls := by
  have e : (A.barM k s t).2.sch = A.sch ∧ (A.barM k s t).2.clients = A.clients := by
    unfold AdmM.barM
    split
    · exact ⟨by show (A.barF k s t).sch = _; unfold AdmM.barF; split <;> rfl, barF_clients A k s t⟩
    · exact ⟨rfl, rfl⟩
  unfold AdmM.Calls
  rw [e.1, e.2]; exact h
theorem adm_ok {R : RepM} (h : R.Ok) {A : AdmM} (hC : A.Calls) (hW : A.Wf) : ({ R with adm := A } : RepM).Ok := ⟨h.ch, h.win, h.last, h.logc, h.logi, h.rc0, h.rc1, h.rl, h.rn0, h.rn1, h.rcl, hC, hW⟩
theorem serveR_ok {R : RepM} (h : R.Ok) (hr : R.win.room = true) (now : Int) : (serveR R now).1.Ok := by
  have hn := nextA_ok h now
  unfold serveR
  split
  · exact hn
  split
  · exact adm_ok h (barM_calls hn.calls _ _ _) (hn.wf.barM _ _ _)
  · rename_i h2
    exact finishR_ok (pushE_ok hn (by show logErr R.log _ = 0; omega) hr)
theorem gone_few {R : RepM} (h : R.Ok) (now : Int) : (R.adm.sch.goneM now).length ≤ 64 := by
  have := SchM.Wf.fewG h.wf.sch R.adm.sch.cls.length now
  rw [List.take_length] at this; exact this
theorem next_client {R : RepM} (h : R.Ok) (now : Int) (ho : nextOk R now = true) : 0 ≤ (nextF R now).client ∧ (nextF R now).client < 6 := by
  obtain ⟨h1, h2, h3⟩ := expire_wf h.wf now
  obtain ⟨k, q, e1, e2⟩ := popV_ok h1.sch ho
  have hc := exp_calls h.wf h.calls now _ (List.mem_of_getElem? e1) (nextF R now) (by simp [nextF])
  have := h.wf.c1
  exact ⟨hc.1.1, by have := hc.1.2; rw [h2] at this; omega⟩
section
variable {p : Nat} {R : RepM} {b : Nat} {S : List SndM}
set_option maxRecDepth 100000 in
set_option maxHeartbeats 4000000 in
theorem serve_spec (Fr : Nat → Prop) (w : World) (ok : R.Ok) (hr : R.win.room = true) (hS : S.length ≤ 800000) (now : Int) : Tri Tryz.prog 85 [.pointer (some ⟨p, 0, none⟩), .int .i64 now, sendF b] Fr w [repH p R, outH b S]
    (fun v L => v = .bool (serveR R now).2.2 ∧ L = [repH p (serveR R now).1, outH b (S ++ (serveR R now).2.1)]) := by
  have hg64 := gone_few ok now
  have hn := nextA_ok ok now
  have hgc := gone_ok ok.calls now
  have hc6 := ok.wf.c1
  refine Tri.of 85 Tryz.func85 rfl (by kernel_rfl) tabOk rfl rfl ?_
  refine VC.opn 0 rfl (HOpn.rep p R) ?_
  rintro x -
  show VC _ _ _ (repO p R x b S) _
  unfold repO
  (repeat (first|refine zS ?_|refine zR ?_|refine zB ?_|refine zL ?_|refine zC ?_|refine zG (zN ?_)|refine zG (zD 0 rfl rfl rfl rfl ?_)))
  refine VO.ent (L' := [admH x.ap R.adm, pt p (repCs R x) repT, slH memT 2 x.a R.ch.ms.length x.c (flat memC R.ch.ms), logH x.lp R.log, winH x.wp R.win, rdsH x.rp R.rds, outH b S]) (Imp.pick 4 rfl (Imp.pick 0 rfl (Imp.pick 0 rfl (Imp.pick 0 rfl (Imp.pick 0 rfl (Imp.pick 0 rfl (Imp.pick 0 rfl Imp.nil))))))).ent ?_
  refine VO.go (VO.call (Lc := [admH x.ap R.adm]) (fun Fr w hF hs hS => Adm.next_spec Fr w x.ap R.adm now ok.wf ok.calls) rfl rfl ?_)
  rintro _ _ ⟨r, m, rok, hrx, rfl, rfl⟩
  show VO _ _ _ _ _ [r.h 46, admH x.ap (R.adm.nextM now), pt p (repCs R x) repT, slH memT 2 x.a R.ch.ms.length x.c (flat memC R.ch.ms), logH x.lp R.log, winH x.wp R.win, rdsH x.rp R.rds, outH b S] _
  (repeat (first|refine zS ?_|refine zR ?_|refine zB ?_|refine zL ?_|refine zC ?_|refine zG (zN ?_)|refine zG (zD 0 rfl rfl rfl rfl ?_)))
  refine VO.go (VO.alloc rfl fun fb => ?_)
  refine VO.go (VO.stA (vs := fmc (nextF R now, m)) 0 rfl rfl rfl rfl (Nat.le_refl _) rfl rfl rfl ?_)
  have hrv : r.v = .slice r.addr r.xs.length r.cap := rfl
  rw [hrv]
  (repeat (first|refine zS ?_|refine zR ?_|refine zB ?_|refine zL ?_|refine zC ?_|refine zG (zN ?_)|refine zG (zD 0 rfl rfl rfl rfl ?_)))
  refine VC.loop (σ := Nat) (fun i => [(0, .pointer (some ⟨p, 0, none⟩)), (2, sendF b), (7, .pointer (some ⟨fb, 0, none⟩)), (8, .bool (nextOk R now)), (25, .slice r.addr r.xs.length r.cap), (26, .int .i64 r.xs.length), (27, .int .i64 i)])
    (fun i => [pt fb (fmc (nextF R now, m)) frT, r.h frT, admH x.ap (R.adm.nextM now), pt p (repCs R x) repT, slH memT 2 x.a R.ch.ms.length x.c (flat memC R.ch.ms), logH x.lp R.log, winH x.wp R.win, rdsH x.rp R.rds, outH b (S ++ refs R.ch.epoch ((R.adm.sch.goneM now).take i) 2)])
    (fun i => i ≤ r.xs.length) (fun i => r.xs.length - i) 0
    (Nat.zero_le _) (Sub.cons rfl (Sub.cons rfl (Sub.cons rfl (Sub.cons rfl (Sub.cons rfl (Sub.cons rfl (Sub.cons rfl (Sub.nil _)))))))) (by rw [List.take_zero, show refs R.ch.epoch [] 2 = [] from rfl, List.append_nil]; exact Ent.refl) ?_
  intro i hi
  have hxl : r.xs.length = (R.adm.sch.goneM now).length := by rw [← hrx]; simp
  (repeat (first|refine zS ?_|refine zR ?_|refine zB ?_|refine zL ?_|refine zC ?_|refine zG (zN ?_)|refine zG (zD 0 rfl rfl rfl rfl ?_)))
  refine VC.condP rfl (fun h1 => VC.skip ?_) (fun h1 => VC.exit ?_)
  · have hi2 : i < r.xs.length := by omega
    obtain ⟨g, hg⟩ : ∃ g, r.xs[i]? = some g := ⟨_, List.getElem?_eq_getElem hi2⟩
    have hgg : (R.adm.sch.goneM now)[i]? = some g.1 := by rw [← hrx, List.getElem?_map, hg]; rfl
    have hcl := hgc g.1 (List.mem_of_getElem? hgg)
    obtain ⟨gb, go, r1, r2, hrd⟩ := rok.ld (t := frT) hg rfl
    rw [r2]
    (repeat (first|refine zS ?_|refine zR ?_|refine zB ?_|refine zL ?_|refine zC ?_|refine zG (zN ?_)|refine zG (zD 0 rfl rfl rfl rfl ?_)))
    refine VO.go (VO.light (light_idx i rfl rfl rfl rfl rfl rfl hi2) ?_)
    refine VO.go (VO.load rfl rfl ((hrd 1 rfl).1 _ rfl rfl) ?_)
    refine VO.go (VO.alloc rfl fun tb => ?_)
    refine VO.go (VO.stA (vs := fmc g) 0 rfl rfl rfl rfl (Nat.le_refl _) rfl rfl rfl ?_)
    (repeat (first|refine zS ?_|refine zR ?_|refine zB ?_|refine zL ?_|refine zC ?_|refine zG (zN ?_)|refine zG (zD 0 rfl rfl rfl rfl ?_)))
    refine VO.go (VO.ldA 0 (fmc g) rfl rfl rfl rfl ?_)
    refine VO.go (VO.callAt 9 rfl (fun Fr w hF hs hS => refuse_spec Fr w (hS.blk 4 rfl) (by rw [List.length_append, refs, List.length_map, List.length_take]; omega) g.1 (g.2.1, 0, g.2.2) hcl.1.1 (by have := hcl.1.2; omega) 2) rfl (ψ := fun v H => v = .tuple #[] ∧ H = outH b (S ++ refs R.ch.epoch ((R.adm.sch.goneM now).take i) 2 ++ [(32 + g.1.client, refuseF R.ch.epoch g.1 2)])) (fun v L h => ⟨_, h.2, h.1, rfl⟩) ?_)
    rintro _ _ ⟨rfl, rfl⟩
    (repeat (first|refine zS ?_|refine zR ?_|refine zB ?_|refine zL ?_|refine zC ?_|refine zG (zN ?_)|refine zG (zD 0 rfl rfl rfl rfl ?_)))
    refine VO.go (VO.add rfl rfl (by omega) (by omega) ?_)
    (repeat (first|refine zS ?_|refine zR ?_|refine zB ?_|refine zL ?_|refine zC ?_|refine zG (zN ?_)|refine zG (zD 0 rfl rfl rfl rfl ?_)))
    refine ⟨i + 1, hi2, by dsimp only; omega, Sub.cons rfl (Sub.cons rfl (Sub.cons rfl (Sub.cons rfl (Sub.cons rfl (Sub.cons rfl (Sub.cons rfl (Sub.nil _))))))), ?_⟩
    dsimp only
    rw [show refs R.ch.epoch ((R.adm.sch.goneM now).take (i + 1)) 2 = refs R.ch.epoch ((R.adm.sch.goneM now).take i) 2 ++ [(32 + g.1.client, refuseF R.ch.epoch g.1 2)] by rw [List.take_add_one, hgg]; simp [refs], ← List.append_assoc]
    exact (Imp.pick 1 rfl (Imp.pick 1 rfl (Imp.pick 1 rfl (Imp.pick 1 rfl (Imp.pick 1 rfl (Imp.pick 1 rfl (Imp.pick 1 rfl (Imp.pick 1 rfl (Imp.pick 1 rfl Imp.nil))))))))).ent
  · obtain rfl : i = r.xs.length := by omega
    rw [hxl, List.take_length]
    have hrl : (refs R.ch.epoch (R.adm.sch.goneM now) 2).length ≤ 64 := by rw [refs, List.length_map]; exact hg64
    (repeat (first|refine zS ?_|refine zR ?_|refine zB ?_|refine zL ?_|refine zC ?_|refine zG (zN ?_)|refine zG (zD 0 rfl rfl rfl rfl ?_)))
    refine VC.condN rfl (fun ho => ?_) (fun ho => VC.skip ?_)
    · (repeat (first|refine zS ?_|refine zR ?_|refine zB ?_|refine zL ?_|refine zC ?_|refine zG (zN ?_)|refine zG (zD 0 rfl rfl rfl rfl ?_)))
      exact VC.ret (Ret.tmp 6 rfl rfl (Imp.rep (R := nextA R now) x (Imp.pick 3 rfl (Imp.pick 3 rfl (Imp.pick 3 rfl (Imp.pick 3 rfl (Imp.pick 2 rfl (Imp.pick 2 rfl (Imp.pick 2 rfl Imp.nil)))))))).ent ⟨by rw [serveR, if_pos ho], by rw [serveR, if_pos ho]⟩)
    have hno : ¬ nextOk R now = false := by rw [ho]; simp
    have hcf := next_client ok now ho
    have w1 := ok.win.last1; have hla := ok.last
    refine VC.seq ?_
    refine VC.meetS (σ := Nat) (fun eb => [(0, .pointer (some ⟨p, 0, none⟩)), (2, sendF b), (7, .pointer (some ⟨fb, 0, none⟩)), (12, .pointer (some ⟨eb, 0, none⟩))]) (fun eb => [pt eb (entC (nextE R now)) entT, pt fb (fmc (nextF R now, m)) frT, r.h frT, admH x.ap (R.adm.nextM now), pt p (repCs R x) repT, slH memT 2 x.a R.ch.ms.length x.c (flat memC R.ch.ms), logH x.lp R.log, winH x.wp R.win, rdsH x.rp R.rds, outH b (S ++ refs R.ch.epoch (R.adm.sch.goneM now) 2)]) (fun _ => True) ?_ ?_
    · refine VC.draw (ts 0 4 (ts 6 6 (.two 4 13 (.take 5 (.take 12 (.only 13 (.only 14 .nil)))) (.only 4 (.take 5 (.take 12 (.only 14 .nil))))))) (by kernel_rfl) (by decide +kernel) ?_
      (repeat (first|refine yG (yN ?_)|refine yG (yD 0 rfl rfl rfl rfl rfl ?_)|refine yG (yD 1 rfl rfl rfl rfl rfl ?_)|refine yG (yD 2 rfl rfl rfl rfl rfl ?_)|refine yG (yD 3 rfl rfl rfl rfl rfl ?_)))
      refine VA.go (VA.ldA 0 (nextF R now).op.cells rfl rfl rfl rfl rfl ?_)
      refine VA.go (VA.two rfl rfl rfl rfl rfl (OpT.callP (φ := fun v => v = .int .i64 R.log.length) (fun Fr w hF hs hS => Lg.len_spec Fr w (hS.at_ 5 rfl)) rfl) rfl rfl rfl (OpT.alloc rfl) ?_ ?_ ?_ ?_)
      · rintro _ _ ⟨rfl, rfl⟩
        exact (by (try refine Pd.st ?_);(repeat (first|exact Pd.nil|exact Pd.fnil|refine Pd.inner ?_|refine Pd.skip (by decide +kernel) ?_|refine zf (zo 0 rfl rfl) ?_|refine zf (zo 1 rfl rfl) ?_|refine zf (zo 2 rfl rfl) ?_|refine zf (zo 3 rfl rfl) ?_|refine zf (zm 0 rfl rfl) ?_|refine zf (zm 1 rfl rfl) ?_|refine zf (zm 2 rfl rfl) ?_|refine zf (zm 3 rfl rfl) ?_|refine zc (zo 0 rfl rfl) ?_|refine zc (zo 1 rfl rfl) ?_|refine zc (zo 2 rfl rfl) ?_|refine zc (zo 3 rfl rfl) ?_|refine zc (zm 0 rfl rfl) ?_|refine zc (zm 1 rfl rfl) ?_|refine zc (zm 2 rfl rfl) ?_|refine zc (zm 3 rfl rfl) ?_)))
      · rintro _ _ ⟨eb, rfl, rfl⟩
        exact (by (try refine Pd.st ?_);(repeat (first|exact Pd.nil|exact Pd.fnil|refine Pd.inner ?_|refine Pd.skip (by decide +kernel) ?_|refine zf (zo 0 rfl rfl) ?_|refine zf (zo 1 rfl rfl) ?_|refine zf (zo 2 rfl rfl) ?_|refine zf (zo 3 rfl rfl) ?_|refine zf (zo 4 rfl rfl) ?_|refine zf (zm 0 rfl rfl) ?_|refine zf (zm 1 rfl rfl) ?_|refine zf (zm 2 rfl rfl) ?_|refine zf (zm 3 rfl rfl) ?_|refine zf (zm 4 rfl rfl) ?_|refine zc (zo 0 rfl rfl) ?_|refine zc (zo 1 rfl rfl) ?_|refine zc (zo 2 rfl rfl) ?_|refine zc (zo 3 rfl rfl) ?_|refine zc (zo 4 rfl rfl) ?_|refine zc (zm 0 rfl rfl) ?_|refine zc (zm 1 rfl rfl) ?_|refine zc (zm 2 rfl rfl) ?_|refine zc (zm 3 rfl rfl) ?_|refine zc (zm 4 rfl rfl) ?_)))
      · rintro _ _ ⟨rfl, rfl⟩
        refine VA.go (VA.add rfl rfl rfl (by omega) (by omega) ?_)
        refine VA.go (VA.light rfl (light_build (pv := [(0, .int .i64 (R.log.length + 1)), (1, .int .i64 (nextF R now).client), (2, .int .i64 (nextF R now).seq), (3, .agg (nextF R now).op.cells.toArray)]) (entC (nextE R now)) rfl rfl rfl (by kernel_rfl) rfl) ?_)
        refine VA.go (VA.opP (OpT.alloc rfl) rfl ?_ ?_)
        · rintro _ _ ⟨eb, rfl, rfl⟩
          exact (by (try refine Pd.st ?_);(repeat (first|exact Pd.nil|exact Pd.fnil|refine Pd.inner ?_|refine Pd.skip (by decide +kernel) ?_|refine zf (zo 0 rfl rfl) ?_|refine zf (zo 1 rfl rfl) ?_|refine zf (zo 2 rfl rfl) ?_|refine zf (zo 3 rfl rfl) ?_|refine zf (zo 4 rfl rfl) ?_|refine zf (zm 0 rfl rfl) ?_|refine zf (zm 1 rfl rfl) ?_|refine zf (zm 2 rfl rfl) ?_|refine zf (zm 3 rfl rfl) ?_|refine zf (zm 4 rfl rfl) ?_|refine zc (zo 0 rfl rfl) ?_|refine zc (zo 1 rfl rfl) ?_|refine zc (zo 2 rfl rfl) ?_|refine zc (zo 3 rfl rfl) ?_|refine zc (zo 4 rfl rfl) ?_|refine zc (zm 0 rfl rfl) ?_|refine zc (zm 1 rfl rfl) ?_|refine zc (zm 2 rfl rfl) ?_|refine zc (zm 3 rfl rfl) ?_|refine zc (zm 4 rfl rfl) ?_)))
        rintro _ _ ⟨eb, rfl, rfl⟩
        refine VA.go (VA.stA (vs := entC (nextE R now)) 0 rfl rfl rfl rfl rfl (Nat.le_refl _) rfl rfl rfl (by (try refine Pd.st ?_);(repeat (first|exact Pd.nil|exact Pd.fnil|refine Pd.inner ?_|refine Pd.skip (by decide +kernel) ?_|refine zf (zo 0 rfl rfl) ?_|refine zf (zo 1 rfl rfl) ?_|refine zf (zo 2 rfl rfl) ?_|refine zf (zo 3 rfl rfl) ?_|refine zf (zo 4 rfl rfl) ?_|refine zf (zm 0 rfl rfl) ?_|refine zf (zm 1 rfl rfl) ?_|refine zf (zm 2 rfl rfl) ?_|refine zf (zm 3 rfl rfl) ?_|refine zf (zm 4 rfl rfl) ?_|refine zc (zo 0 rfl rfl) ?_|refine zc (zo 1 rfl rfl) ?_|refine zc (zo 2 rfl rfl) ?_|refine zc (zo 3 rfl rfl) ?_|refine zc (zo 4 rfl rfl) ?_|refine zc (zm 0 rfl rfl) ?_|refine zc (zm 1 rfl rfl) ?_|refine zc (zm 2 rfl rfl) ?_|refine zc (zm 3 rfl rfl) ?_|refine zc (zm 4 rfl rfl) ?_))) ?_)
        (repeat (first|refine yG (yN ?_)|refine yG (yD 0 rfl rfl rfl rfl rfl ?_)))
        exact ⟨eb, trivial, Sub.cons rfl (Sub.cons rfl (Sub.cons rfl (Sub.cons rfl (Sub.nil _)))), Ent.refl⟩
      · rintro _ _ ⟨eb, rfl, rfl⟩
        refine VA.go (VA.opP (OpT.callP (φ := fun v => v = .int .i64 R.log.length) (fun Fr w hF hs hS => Lg.len_spec Fr w (hS.at_ 6 rfl)) rfl) rfl ?_ ?_)
        · rintro _ _ ⟨rfl, rfl⟩
          exact (by (try refine Pd.st ?_);(repeat (first|exact Pd.nil|exact Pd.fnil|refine Pd.inner ?_|refine Pd.skip (by decide +kernel) ?_|refine zf (zo 0 rfl rfl) ?_|refine zf (zo 1 rfl rfl) ?_|refine zf (zo 2 rfl rfl) ?_|refine zf (zo 3 rfl rfl) ?_|refine zf (zo 4 rfl rfl) ?_|refine zf (zm 0 rfl rfl) ?_|refine zf (zm 1 rfl rfl) ?_|refine zf (zm 2 rfl rfl) ?_|refine zf (zm 3 rfl rfl) ?_|refine zf (zm 4 rfl rfl) ?_|refine zc (zo 0 rfl rfl) ?_|refine zc (zo 1 rfl rfl) ?_|refine zc (zo 2 rfl rfl) ?_|refine zc (zo 3 rfl rfl) ?_|refine zc (zo 4 rfl rfl) ?_|refine zc (zm 0 rfl rfl) ?_|refine zc (zm 1 rfl rfl) ?_|refine zc (zm 2 rfl rfl) ?_|refine zc (zm 3 rfl rfl) ?_|refine zc (zm 4 rfl rfl) ?_)))
        rintro _ _ ⟨rfl, rfl⟩
        refine VA.go (VA.add rfl rfl rfl (by omega) (by omega) ?_)
        refine VA.go (VA.light rfl (light_build (pv := [(0, .int .i64 (R.log.length + 1)), (1, .int .i64 (nextF R now).client), (2, .int .i64 (nextF R now).seq), (3, .agg (nextF R now).op.cells.toArray)]) (entC (nextE R now)) rfl rfl rfl (by kernel_rfl) rfl) ?_)
        refine VA.go (VA.stA (vs := entC (nextE R now)) 0 rfl rfl rfl rfl rfl (Nat.le_refl _) rfl rfl rfl (by (try refine Pd.st ?_);(repeat (first|exact Pd.nil|exact Pd.fnil|refine Pd.inner ?_|refine Pd.skip (by decide +kernel) ?_|refine zf (zo 0 rfl rfl) ?_|refine zf (zo 1 rfl rfl) ?_|refine zf (zo 2 rfl rfl) ?_|refine zf (zo 3 rfl rfl) ?_|refine zf (zo 4 rfl rfl) ?_|refine zf (zm 0 rfl rfl) ?_|refine zf (zm 1 rfl rfl) ?_|refine zf (zm 2 rfl rfl) ?_|refine zf (zm 3 rfl rfl) ?_|refine zf (zm 4 rfl rfl) ?_|refine zc (zo 0 rfl rfl) ?_|refine zc (zo 1 rfl rfl) ?_|refine zc (zo 2 rfl rfl) ?_|refine zc (zo 3 rfl rfl) ?_|refine zc (zo 4 rfl rfl) ?_|refine zc (zm 0 rfl rfl) ?_|refine zc (zm 1 rfl rfl) ?_|refine zc (zm 2 rfl rfl) ?_|refine zc (zm 3 rfl rfl) ?_|refine zc (zm 4 rfl rfl) ?_))) ?_)
        (repeat (first|refine yG (yN ?_)|refine yG (yD 0 rfl rfl rfl rfl rfl ?_)))
        exact ⟨eb, trivial, Sub.cons rfl (Sub.cons rfl (Sub.cons rfl (Sub.cons rfl (Sub.nil _)))), Ent.refl⟩
    rintro eb -
    refine VC.seq (VC.seq ?_)
    refine VC.meetS (σ := Nat) (fun rb => [(0, .pointer (some ⟨p, 0, none⟩)), (2, sendF b), (7, .pointer (some ⟨fb, 0, none⟩)), (14, .int .i64 (logErr R.log (nextE R now)))]) (fun rb => [pt rb (resC (logRes R.log (nextE R now))) resT, pt eb (entC (nextE R now)) entT, pt fb (fmc (nextF R now, m)) frT, r.h frT, admH x.ap (R.adm.nextM now), pt p (repCs R x) repT, slH memT 2 x.a R.ch.ms.length x.c (flat memC R.ch.ms), logH x.lp (logApp R.log (nextE R now)), winH x.wp R.win, rdsH x.rp R.rds, outH b (S ++ refs R.ch.epoch (R.adm.sch.goneM now) 2)]) (fun _ => True) ?_ ?_
    · refine VC.draw (ts 0 5 (.two 5 9 (ts 6 3 (.only 9 (.only 10 (.take 11 .nil)))) (.only 5 (ts 6 3 (.only 10 (.take 11 .nil)))))) (by kernel_rfl) (by decide +kernel) ?_
      (repeat (first|refine yG (yN ?_)|refine yG (yD 0 rfl rfl rfl rfl rfl ?_)|refine yG (yD 1 rfl rfl rfl rfl rfl ?_)|refine yG (yD 2 rfl rfl rfl rfl rfl ?_)|refine yG (yD 3 rfl rfl rfl rfl rfl ?_)|refine yG (yD 4 rfl rfl rfl rfl rfl ?_)))
      refine VA.go (VA.ldA 0 (entC (nextE R now)) rfl rfl rfl rfl rfl ?_)
      refine VA.go (VA.two rfl rfl rfl rfl rfl (OpT.callAt (ψ := fun v H => v = .tuple #[.agg (resC (logRes R.log (nextE R now))).toArray, .int .i64 (logErr R.log (nextE R now))] ∧ H = logH x.lp (logApp R.log (nextE R now))) 6 rfl (fun Fr w hF hs hS => Lg.append_spec Fr w x.lp R.log (nextE R now)) rfl (fun v L h => ⟨_, h.2, h.1, rfl⟩)) rfl rfl rfl (OpT.alloc rfl) ?_ ?_ ?_ ?_)
      · rintro _ _ ⟨_, ⟨rfl, rfl⟩, rfl⟩
        exact (by (try refine Pd.st ?_);(repeat (first|exact Pd.nil|exact Pd.fnil|refine Pd.inner ?_|refine Pd.skip (by decide +kernel) ?_|refine zf (zo 0 rfl rfl) ?_|refine zf (zo 1 rfl rfl) ?_|refine zf (zo 2 rfl rfl) ?_|refine zf (zo 3 rfl rfl) ?_|refine zf (zo 4 rfl rfl) ?_|refine zf (zm 0 rfl rfl) ?_|refine zf (zm 1 rfl rfl) ?_|refine zf (zm 2 rfl rfl) ?_|refine zf (zm 3 rfl rfl) ?_|refine zf (zm 4 rfl rfl) ?_|refine zc (zo 0 rfl rfl) ?_|refine zc (zo 1 rfl rfl) ?_|refine zc (zo 2 rfl rfl) ?_|refine zc (zo 3 rfl rfl) ?_|refine zc (zo 4 rfl rfl) ?_|refine zc (zm 0 rfl rfl) ?_|refine zc (zm 1 rfl rfl) ?_|refine zc (zm 2 rfl rfl) ?_|refine zc (zm 3 rfl rfl) ?_|refine zc (zm 4 rfl rfl) ?_)))
      · rintro _ _ ⟨rb, rfl, rfl⟩
        exact (by (try refine Pd.st ?_);(repeat (first|exact Pd.nil|exact Pd.fnil|refine Pd.inner ?_|refine Pd.skip (by decide +kernel) ?_|refine zf (zo 0 rfl rfl) ?_|refine zf (zo 1 rfl rfl) ?_|refine zf (zo 2 rfl rfl) ?_|refine zf (zo 3 rfl rfl) ?_|refine zf (zo 4 rfl rfl) ?_|refine zf (zo 5 rfl rfl) ?_|refine zf (zm 0 rfl rfl) ?_|refine zf (zm 1 rfl rfl) ?_|refine zf (zm 2 rfl rfl) ?_|refine zf (zm 3 rfl rfl) ?_|refine zf (zm 4 rfl rfl) ?_|refine zf (zm 5 rfl rfl) ?_|refine zc (zo 0 rfl rfl) ?_|refine zc (zo 1 rfl rfl) ?_|refine zc (zo 2 rfl rfl) ?_|refine zc (zo 3 rfl rfl) ?_|refine zc (zo 4 rfl rfl) ?_|refine zc (zo 5 rfl rfl) ?_|refine zc (zm 0 rfl rfl) ?_|refine zc (zm 1 rfl rfl) ?_|refine zc (zm 2 rfl rfl) ?_|refine zc (zm 3 rfl rfl) ?_|refine zc (zm 4 rfl rfl) ?_|refine zc (zm 5 rfl rfl) ?_)))
      · rintro _ _ ⟨_, ⟨rfl, rfl⟩, rfl⟩
        (repeat (first|refine yG (yN ?_)|refine yG (yD 0 rfl rfl rfl rfl rfl ?_)))
        refine VA.go (VA.opP (OpT.alloc rfl) rfl ?_ ?_)
        · rintro _ _ ⟨rb, rfl, rfl⟩
          exact (by (try refine Pd.st ?_);(repeat (first|exact Pd.nil|exact Pd.fnil|refine Pd.inner ?_|refine Pd.skip (by decide +kernel) ?_|refine zf (zo 0 rfl rfl) ?_|refine zf (zo 1 rfl rfl) ?_|refine zf (zo 2 rfl rfl) ?_|refine zf (zo 3 rfl rfl) ?_|refine zf (zo 4 rfl rfl) ?_|refine zf (zo 5 rfl rfl) ?_|refine zf (zm 0 rfl rfl) ?_|refine zf (zm 1 rfl rfl) ?_|refine zf (zm 2 rfl rfl) ?_|refine zf (zm 3 rfl rfl) ?_|refine zf (zm 4 rfl rfl) ?_|refine zf (zm 5 rfl rfl) ?_|refine zc (zo 0 rfl rfl) ?_|refine zc (zo 1 rfl rfl) ?_|refine zc (zo 2 rfl rfl) ?_|refine zc (zo 3 rfl rfl) ?_|refine zc (zo 4 rfl rfl) ?_|refine zc (zo 5 rfl rfl) ?_|refine zc (zm 0 rfl rfl) ?_|refine zc (zm 1 rfl rfl) ?_|refine zc (zm 2 rfl rfl) ?_|refine zc (zm 3 rfl rfl) ?_|refine zc (zm 4 rfl rfl) ?_|refine zc (zm 5 rfl rfl) ?_)))
        rintro _ _ ⟨rb, rfl, rfl⟩
        refine VA.go (VA.stA (vs := resC (logRes R.log (nextE R now))) 0 rfl rfl rfl rfl rfl (Nat.le_refl _) rfl rfl rfl (by (try refine Pd.st ?_);(repeat (first|exact Pd.nil|exact Pd.fnil|refine Pd.inner ?_|refine Pd.skip (by decide +kernel) ?_|refine zf (zo 0 rfl rfl) ?_|refine zf (zo 1 rfl rfl) ?_|refine zf (zo 2 rfl rfl) ?_|refine zf (zo 3 rfl rfl) ?_|refine zf (zo 4 rfl rfl) ?_|refine zf (zo 5 rfl rfl) ?_|refine zf (zm 0 rfl rfl) ?_|refine zf (zm 1 rfl rfl) ?_|refine zf (zm 2 rfl rfl) ?_|refine zf (zm 3 rfl rfl) ?_|refine zf (zm 4 rfl rfl) ?_|refine zf (zm 5 rfl rfl) ?_|refine zc (zo 0 rfl rfl) ?_|refine zc (zo 1 rfl rfl) ?_|refine zc (zo 2 rfl rfl) ?_|refine zc (zo 3 rfl rfl) ?_|refine zc (zo 4 rfl rfl) ?_|refine zc (zo 5 rfl rfl) ?_|refine zc (zm 0 rfl rfl) ?_|refine zc (zm 1 rfl rfl) ?_|refine zc (zm 2 rfl rfl) ?_|refine zc (zm 3 rfl rfl) ?_|refine zc (zm 4 rfl rfl) ?_|refine zc (zm 5 rfl rfl) ?_))) ?_)
        (repeat (first|refine yG (yN ?_)|refine yG (yD 0 rfl rfl rfl rfl rfl ?_)))
        exact ⟨rb, trivial, Sub.cons rfl (Sub.cons rfl (Sub.cons rfl (Sub.cons rfl (Sub.nil _)))), Ent.refl⟩
      · rintro _ _ ⟨rb, rfl, rfl⟩
        refine VA.go (VA.opP (OpT.callAt (ψ := fun v H => v = .tuple #[.agg (resC (logRes R.log (nextE R now))).toArray, .int .i64 (logErr R.log (nextE R now))] ∧ H = logH x.lp (logApp R.log (nextE R now))) 7 rfl (fun Fr w hF hs hS => Lg.append_spec Fr w x.lp R.log (nextE R now)) rfl (fun v L h => ⟨_, h.2, h.1, rfl⟩)) rfl ?_ ?_)
        · rintro _ _ ⟨_, ⟨rfl, rfl⟩, rfl⟩
          exact (by (try refine Pd.st ?_);(repeat (first|exact Pd.nil|exact Pd.fnil|refine Pd.inner ?_|refine Pd.skip (by decide +kernel) ?_|refine zf (zo 0 rfl rfl) ?_|refine zf (zo 1 rfl rfl) ?_|refine zf (zo 2 rfl rfl) ?_|refine zf (zo 3 rfl rfl) ?_|refine zf (zo 4 rfl rfl) ?_|refine zf (zo 5 rfl rfl) ?_|refine zf (zm 0 rfl rfl) ?_|refine zf (zm 1 rfl rfl) ?_|refine zf (zm 2 rfl rfl) ?_|refine zf (zm 3 rfl rfl) ?_|refine zf (zm 4 rfl rfl) ?_|refine zf (zm 5 rfl rfl) ?_|refine zc (zo 0 rfl rfl) ?_|refine zc (zo 1 rfl rfl) ?_|refine zc (zo 2 rfl rfl) ?_|refine zc (zo 3 rfl rfl) ?_|refine zc (zo 4 rfl rfl) ?_|refine zc (zo 5 rfl rfl) ?_|refine zc (zm 0 rfl rfl) ?_|refine zc (zm 1 rfl rfl) ?_|refine zc (zm 2 rfl rfl) ?_|refine zc (zm 3 rfl rfl) ?_|refine zc (zm 4 rfl rfl) ?_|refine zc (zm 5 rfl rfl) ?_)))
        rintro _ _ ⟨_, ⟨rfl, rfl⟩, rfl⟩
        (repeat (first|refine yG (yN ?_)|refine yG (yD 0 rfl rfl rfl rfl rfl ?_)))
        refine VA.go (VA.stA (vs := resC (logRes R.log (nextE R now))) 0 rfl rfl rfl rfl rfl (Nat.le_refl _) rfl rfl rfl (by (try refine Pd.st ?_);(repeat (first|exact Pd.nil|exact Pd.fnil|refine Pd.inner ?_|refine Pd.skip (by decide +kernel) ?_|refine zf (zo 0 rfl rfl) ?_|refine zf (zo 1 rfl rfl) ?_|refine zf (zo 2 rfl rfl) ?_|refine zf (zo 3 rfl rfl) ?_|refine zf (zo 4 rfl rfl) ?_|refine zf (zo 5 rfl rfl) ?_|refine zf (zm 0 rfl rfl) ?_|refine zf (zm 1 rfl rfl) ?_|refine zf (zm 2 rfl rfl) ?_|refine zf (zm 3 rfl rfl) ?_|refine zf (zm 4 rfl rfl) ?_|refine zf (zm 5 rfl rfl) ?_|refine zc (zo 0 rfl rfl) ?_|refine zc (zo 1 rfl rfl) ?_|refine zc (zo 2 rfl rfl) ?_|refine zc (zo 3 rfl rfl) ?_|refine zc (zo 4 rfl rfl) ?_|refine zc (zo 5 rfl rfl) ?_|refine zc (zm 0 rfl rfl) ?_|refine zc (zm 1 rfl rfl) ?_|refine zc (zm 2 rfl rfl) ?_|refine zc (zm 3 rfl rfl) ?_|refine zc (zm 4 rfl rfl) ?_|refine zc (zm 5 rfl rfl) ?_))) ?_)
        (repeat (first|refine yG (yN ?_)|refine yG (yD 0 rfl rfl rfl rfl rfl ?_)))
        exact ⟨rb, trivial, Sub.cons rfl (Sub.cons rfl (Sub.cons rfl (Sub.cons rfl (Sub.nil _)))), Ent.refl⟩
    rintro rb -
    (repeat (first|refine zS ?_|refine zR ?_|refine zB ?_|refine zL ?_|refine zC ?_|refine zG (zN ?_)|refine zG (zD 0 rfl rfl rfl rfl ?_)))
    refine VC.condNE rfl (fun he => ?_) (fun he => VC.skip ?_)
    · have hap : logApp R.log (nextE R now) = R.log := by rw [logApp, if_neg he]
      rw [hap]
      refine VC.seq (VC.draw (ts 0 10 (.only 10 .nil)) (by kernel_rfl) (by decide +kernel) ?_)
      (repeat (first|refine yG (yN ?_)|refine yG (yD 0 rfl rfl rfl rfl rfl ?_)|refine yG (yD 1 rfl rfl rfl rfl rfl ?_)|refine yG (yD 2 rfl rfl rfl rfl rfl ?_)|refine yG (yD 3 rfl rfl rfl rfl rfl ?_)|refine yG (yD 4 rfl rfl rfl rfl rfl ?_)|refine yG (yD 5 rfl rfl rfl rfl rfl ?_)))
      refine VA.go (VA.callAt 4 rfl (fun Fr w hF hs hS => bar_spec Fr w x.ap (R.adm.nextM now) (nextF R now).client (nextF R now).seq (nextF R now).try_) rfl rfl (ψ := fun v H => H = admH x.ap ((R.adm.nextM now).barM (nextF R now).client (nextF R now).seq (nextF R now).try_).2) (fun v L h => ⟨_, h.2, rfl⟩) ?_ ?_)
      · rintro _ _ rfl
        exact (by (try refine Pd.st ?_);(repeat (first|exact Pd.nil|exact Pd.fnil|refine Pd.inner ?_|refine Pd.skip (by decide +kernel) ?_|refine zf (zo 0 rfl rfl) ?_|refine zf (zo 1 rfl rfl) ?_|refine zf (zo 2 rfl rfl) ?_|refine zf (zo 3 rfl rfl) ?_|refine zf (zo 4 rfl rfl) ?_|refine zf (zo 5 rfl rfl) ?_|refine zf (zm 0 rfl rfl) ?_|refine zf (zm 1 rfl rfl) ?_|refine zf (zm 2 rfl rfl) ?_|refine zf (zm 3 rfl rfl) ?_|refine zf (zm 4 rfl rfl) ?_|refine zf (zm 5 rfl rfl) ?_|refine zc (zo 0 rfl rfl) ?_|refine zc (zo 1 rfl rfl) ?_|refine zc (zo 2 rfl rfl) ?_|refine zc (zo 3 rfl rfl) ?_|refine zc (zo 4 rfl rfl) ?_|refine zc (zo 5 rfl rfl) ?_|refine zc (zm 0 rfl rfl) ?_|refine zc (zm 1 rfl rfl) ?_|refine zc (zm 2 rfl rfl) ?_|refine zc (zm 3 rfl rfl) ?_|refine zc (zm 4 rfl rfl) ?_|refine zc (zm 5 rfl rfl) ?_)))
      rintro _ _ rfl
      (repeat (first|refine yG (yN ?_)|refine yG (yD 0 rfl rfl rfl rfl rfl ?_)))
      (repeat (first|refine zS ?_|refine zR ?_|refine zB ?_|refine zL ?_|refine zC ?_|refine zG (zN ?_)|refine zG (zD 0 rfl rfl rfl rfl ?_)))
      refine VO.go (VO.ldA 2 (fmc (nextF R now, m)) rfl rfl rfl rfl ?_)
      refine VO.go (VO.callAt 10 rfl (fun Fr w hF hs hS => refuse_spec Fr w (hS.blk 5 rfl) (by rw [List.length_append]; omega) (nextF R now) (m.1, 0, m.2) hcf.1 (by omega) 7) rfl (ψ := fun v H => v = .tuple #[] ∧ H = outH b (S ++ refs R.ch.epoch (R.adm.sch.goneM now) 2 ++ [(32 + (nextF R now).client, refuseF R.ch.epoch (nextF R now) 7)])) (fun v L h => ⟨_, h.2, h.1, rfl⟩) ?_)
      rintro _ _ ⟨rfl, rfl⟩
      (repeat (first|refine zS ?_|refine zR ?_|refine zB ?_|refine zL ?_|refine zC ?_|refine zG (zN ?_)|refine zG (zD 0 rfl rfl rfl rfl ?_)))
      exact VC.ret (Ret.tmp 6 rfl rfl (Imp.rep (R := { R with adm := ((R.adm.nextM now).barM (nextF R now).client (nextF R now).seq (nextF R now).try_).2 }) x (Imp.pick 5 rfl (Imp.pick 5 rfl (Imp.pick 5 rfl (Imp.pick 5 rfl (Imp.pick 4 rfl (Imp.pick 4 rfl (Imp.pick 4 rfl Imp.nil)))))))).ent ⟨by rw [serveR, if_neg hno, if_pos he], by rw [serveR, if_neg hno, if_pos he, ← List.append_assoc]⟩)
    have hap : logApp R.log (nextE R now) = R.log ++ [nextE R now] := by rw [logApp, if_pos he]
    rw [hap]
    have okp := pushE_ok hn (e := nextE R now) he hr
    (repeat (first|refine zS ?_|refine zR ?_|refine zB ?_|refine zL ?_|refine zC ?_|refine zG (zN ?_)|refine zG (zD 0 rfl rfl rfl rfl ?_)|refine zG (zD 1 rfl rfl rfl rfl ?_)|refine zG (zD 2 rfl rfl rfl rfl ?_)|refine zG (zD 3 rfl rfl rfl rfl ?_)|refine zG (zD 4 rfl rfl rfl rfl ?_)|refine zG (zD 5 rfl rfl rfl rfl ?_)))
    refine VO.go (VO.callAt 8 rfl (fun Fr w hF hs hS => Win.push_spec Fr w ok.win hr) rfl (ψ := fun v H => v = .bool true ∧ H = winH x.wp { R.win with last := R.win.last + 1 }) (fun v L h => ⟨_, h.2, h.1, rfl⟩) ?_)
    rintro _ _ ⟨rfl, rfl⟩
    refine VO.ent (L' := [repH p (pushE (nextA R now) (nextE R now)), outH b (S ++ refs R.ch.epoch (R.adm.sch.goneM now) 2)]) (Imp.rep (R := pushE (nextA R now) (nextE R now)) x (Imp.pick 5 rfl (Imp.pick 5 rfl (Imp.pick 5 rfl (Imp.pick 5 rfl (Imp.pick 4 rfl (Imp.pick 4 rfl (Imp.pick 4 rfl Imp.nil)))))))).ent ?_
    (repeat (first|refine zS ?_|refine zR ?_|refine zB ?_|refine zL ?_|refine zC ?_|refine zG (zN ?_)|refine zG (zD 0 rfl rfl rfl rfl ?_)))
    refine VO.go (VO.call (Lc := [repH p (pushE (nextA R now) (nextE R now)), outH b (S ++ refs R.ch.epoch (R.adm.sch.goneM now) 2)]) (Lr := []) (fun Fr w hF hs hS => finish_spec Fr w okp (by rw [List.length_append]; omega)) rfl rfl ?_)
    rintro _ _ ⟨rfl, rfl⟩
    (repeat (first|refine zS ?_|refine zR ?_|refine zB ?_|refine zL ?_|refine zC ?_|refine zG (zN ?_)|refine zG (zD 0 rfl rfl rfl rfl ?_)))
    exact VC.ret (Ret.tmp 6 rfl rfl Ent.refl ⟨by rw [serveR, if_neg hno, if_neg (fun h => h he)], by rw [serveR, if_neg hno, if_neg (fun h => h he), ← List.append_assoc]; rfl⟩)
end
end Go.Proofs.YtbbnmgakmcppdaaGreat.Rep
namespace Go.Proofs.YtbbnmgakmcppdaaGreat.Rep
open Go Go.Proofs.YtbbnmgakmcppdaaGreat.Vg Go.Proofs.YtbbnmgakmcppdaaGreat.T Go.Proofs.YtbbnmgakmcppdaaGreat.Api Go.Proofs.YtbbnmgakmcppdaaGreat.Kv Go.Proofs.YtbbnmgakmcppdaaGreat.Ch Go.Proofs.YtbbnmgakmcppdaaGreat.Lg Go.Proofs.YtbbnmgakmcppdaaGreat.Rd Go.Proofs.YtbbnmgakmcppdaaGreat.Win Go.Proofs.YtbbnmgakmcppdaaGreat.Adm Go.Proofs.YtbbnmgakmcppdaaGreat.Sched
set_option linter.unusedSimpArgs false
set_option linter.unusedVariables false
attribute [local irreducible] VO VC VA

/-! ### How many calls wait -/
def totQ (qs : List (List FrameM)) : Nat := (qs.map List.length).sum
def tot (A : AdmM) : Nat := totQ A.sch.qs
theorem totQ_set : ∀ {qs : List (List FrameM)} {k : Nat} {f : FrameM} {q : List FrameM}, qs[k]? = some (f :: q) → totQ (qs.set k q) + 1 = totQ qs
  | [], k, f, q, h => by simp at h
  | x :: qs, 0, f, q, h => by
    simp only [List.getElem?_cons_zero, Option.some.injEq] at h
    subst h
    simp [totQ]; omega
  | x :: qs, k + 1, f, q, h => by
    have ih := totQ_set (qs := qs) (k := k) (f := f) (q := q) (by simpa using h)
    simp only [totQ, List.set_cons_succ, List.map_cons, List.sum_cons] at ih ⊢
    omega
theorem totQ_filter (p : FrameM → Bool) : ∀ qs : List (List FrameM), totQ (qs.map fun q => q.filter p) ≤ totQ qs
  | [] => Nat.le_refl _
  | x :: qs => by
    have ih := totQ_filter p qs
    have := List.length_filter_le p x
    simp only [totQ, List.map_cons, List.sum_cons] at ih ⊢
    omega
theorem tot_next {R : RepM} (h : R.Ok) (now : Int) (ho : nextOk R now = true) : tot (R.adm.nextM now) < tot R.adm := by
  obtain ⟨h1, h2, h3⟩ := expire_wf h.wf now
  obtain ⟨k, q, e1, e2⟩ := popV_ok h1.sch ho
  have e3 : (R.adm.nextM now).sch = (popV (R.adm.expireM now).sch).2.2 := by
    unfold AdmM.nextM
    split <;> rfl
  have h4 := totQ_set e1
  have h5 := totQ_filter (stay now) R.adm.sch.qs
  rw [← exp_qs, ← h3] at h5
  unfold tot
  rw [e3, e2]
  omega
theorem tot_le {R : RepM} (h : R.Ok) : tot R.adm ≤ 64 := by
  have := SchM.Wf.few h.wf.sch R.adm.sch.cls.length
  rw [List.take_length, List.length_flatMap] at this
  show ((R.adm.sch.cls.map ClsM.q).map List.length).sum ≤ 64
  rw [List.map_map]; exact this
theorem serve_tot {R : RepM} (h : R.Ok) (now : Int) (ho : (serveR R now).2.2 = true) : tot (serveR R now).1.adm < tot R.adm := by
  unfold serveR at ho ⊢
  split at ho
  · cases ho
  · rename_i h1
    have hn := tot_next h now (by simpa using h1)
    rw [if_neg h1]
    split
    · have e : ((R.adm.nextM now).barM (nextF R now).client (nextF R now).seq (nextF R now).try_).2.sch = (R.adm.nextM now).sch := by
        unfold AdmM.barM
        split
        · show ((R.adm.nextM now).barF _ _ _).sch = _; unfold AdmM.barF; split <;> rfl
        · rfl
      show tot ((R.adm.nextM now).barM _ _ _).2 < _
      unfold tot at hn ⊢
      rw [e]; exact hn
    · have e : (pushE (nextA R now) (nextE R now)).finishR.adm = R.adm.nextM now := by unfold RepM.finishR; split <;> rfl
      show tot (pushE (nextA R now) (nextE R now)).finishR.adm < _
      rw [e]; exact hn
theorem serve_sends {R : RepM} (h : R.Ok) (hr : R.win.room = true) (now : Int) : (serveR R now).2.1.length ≤ 4200 := by
  have hg : (refs R.ch.epoch (R.adm.sch.goneM now) 2).length ≤ 64 := by rw [refs, List.length_map]; exact gone_few h now
  unfold serveR
  split
  · show (refs _ _ _).length ≤ 4200; omega
  split
  · show (refs R.ch.epoch (R.adm.sch.goneM now) 2 ++ [(32 + (nextF R now).client, refuseF R.ch.epoch (nextF R now) 7)]).length ≤ 4200; rw [List.length_append]; simp; omega
  · rename_i h2
    have := finishM_len (pushE_ok (nextA_ok h now) (e := nextE R now) (by show logErr R.log _ = 0; omega) hr)
    show (refs R.ch.epoch (R.adm.sch.goneM now) 2 ++ (pushE (nextA R now) (nextE R now)).finishM).length ≤ 4200
    rw [List.length_append]; omega
def serveLoop (now : Int) : Nat → RepM → RepM × List SndM
  | 0, R => (R, [])
  | k + 1, R => if R.win.room = true then
      if (serveR R now).2.2 = true then ((serveLoop now k (serveR R now).1).1, (serveR R now).2.1 ++ (serveLoop now k (serveR R now).1).2)
      else ((serveR R now).1, (serveR R now).2.1)
    else (R, [])
def expR (R : RepM) (now : Int) : RepM := { R with rds := { R.rds with l := R.rds.l.filter (lives now) } }
def expS (R : RepM) (now : Int) : List SndM := refs R.ch.epoch ((R.rds.l.filter (fun y => !lives now y)).map RdM.f) 2
def servesB (R : RepM) : Bool := R.headB && (R.whole && !R.drainsB)
def step2 (R : RepM) (now : Int) : RepM × List SndM := if servesB (expR R now) then serveLoop now 65 (expR R now) else (expR R now, [])
def step3 (R : RepM) (now : Int) : RepM × List SndM := if (step2 R now).1.linked then passR (step2 R now).1 else ((step2 R now).1, [])
def stepR (R : RepM) (now : Int) : RepM × List SndM := ((step3 R now).1, expS R now ++ (step2 R now).2 ++ (step3 R now).2)
theorem expR_ok {R : RepM} (h : R.Ok) (now : Int) : (expR R now).Ok := ⟨h.ch, h.win, h.last, h.logc, h.logi, h.rc0, h.rc1, by
  have := h.rl; have h2 := List.length_filter_le (lives now) R.rds.l
  show ((R.rds.l.filter (lives now)).length : Int) ≤ R.rds.cap; omega, h.rn0, h.rn1, fun y hy => h.rcl y (List.mem_filter.1 hy).1, h.calls, h.wf⟩
theorem serveLoop_ok (now : Int) : ∀ (k : Nat) {R : RepM}, R.Ok → (serveLoop now k R).1.Ok
  | 0, R, h => h
  | k + 1, R, h => by
    rw [serveLoop]
    split
    · rename_i hr
      split
      · exact serveLoop_ok now k (serveR_ok h hr now)
      · exact serveR_ok h hr now
    · exact h
theorem serveLoop_len (now : Int) : ∀ (k : Nat) {R : RepM}, R.Ok → (serveLoop now k R).2.length ≤ k * 4200
  | 0, R, h => Nat.le_refl _
  | k + 1, R, h => by
    rw [serveLoop]
    split
    · rename_i hr
      have h1 := serve_sends h hr now
      split
      · have := serveLoop_len now k (serveR_ok h hr now)
        rw [List.length_append]; omega
      · show (serveR R now).2.1.length ≤ _; omega
    · simp
theorem passR_ok {R : RepM} (h : R.Ok) : (passR R).1.Ok := by
  have hw := passN_ok h (passK R)
  have e := passN_win R (passK R) (Nat.le_refl _)
  exact ⟨h.ch, hw, by show (passN R (passK R)).1.last = _; rw [e]; exact h.last, h.logc, h.logi, h.rc0, h.rc1, h.rl, h.rn0, h.rn1, h.rcl, h.calls, h.wf⟩
theorem step2_ok {R : RepM} (h : R.Ok) (now : Int) : (step2 R now).1.Ok := by
  unfold step2
  split
  · exact serveLoop_ok now 65 (expR_ok h now)
  · exact expR_ok h now
theorem stepR_ok {R : RepM} (h : R.Ok) (now : Int) : (stepR R now).1.Ok := by
  show (step3 R now).1.Ok
  unfold step3
  split
  · exact passR_ok (step2_ok h now)
  · exact step2_ok h now
section
variable {p : Nat} {R : RepM}
/-- What a step, or what is taken, hands back. -/
def sent (S : List SndM) (v : Value) (L : List HP) (H : List HP) : Prop := ∃ a c, v = .slice a S.length c ∧ L = H ++ [slH sndT 30 a S.length c (flat sndC S)]
set_option maxRecDepth 100000 in
set_option maxHeartbeats 4000000 in
theorem step_spec (Fr : Nat → Prop) (w : World) (ok : R.Ok) (now : Int) : Tri Tryz.prog 26 [.pointer (some ⟨p, 0, none⟩), .int .i64 now] Fr w [repH p R]
    (fun v L => sent (stepR R now).2 v L [repH p (stepR R now).1]) := by
  have hrl : R.rds.l.length ≤ 16 := by have := ok.rl; have := ok.rc1; omega
  have ok1 := expR_ok ok now
  have ok2 := step2_ok ok now
  refine Tri.of 72 Tryz.func26 rfl (by kernel_rfl) tabOk rfl rfl ?_
  refine VC.opn 0 rfl (HOpn.rep p R) ?_
  rintro x -
  show VC _ _ _ [pt p (repCs R x) repT, slH memT 2 x.a R.ch.ms.length x.c (flat memC R.ch.ms), logH x.lp R.log, winH x.wp R.win, admH x.ap R.adm, rdsH x.rp R.rds] _
  (repeat (first|refine zS ?_|refine zR ?_|refine zB ?_|refine zL ?_|refine zC ?_|refine zG (zN ?_)|refine zG (zD 0 rfl rfl rfl rfl ?_)))
  refine VO.go (VO.callV' (fun Fr w hF hs hS => made_spec Fr w (hS.blk 0 rfl)) rfl ?_)
  (repeat (first|refine zS ?_|refine zR ?_|refine zB ?_|refine zL ?_|refine zC ?_|refine zG (zN ?_)|refine zG (zD 0 rfl rfl rfl rfl ?_)))
  refine VC.condF rfl (VC.skip ?_)
  (repeat (first|refine zS ?_|refine zR ?_|refine zB ?_|refine zL ?_|refine zC ?_|refine zG (zN ?_)|refine zG (zD 0 rfl rfl rfl rfl ?_)))
  refine VO.go (VO.alloc rfl fun ob => ?_)
  (repeat (first|refine zS ?_|refine zR ?_|refine zB ?_|refine zL ?_|refine zC ?_|refine zG (zN ?_)|refine zG (zD 0 rfl rfl rfl rfl ?_)))
  refine VO.go (VO.light (light_makeFunc (u := [.pointer (some ⟨ob, 0, none⟩)]) (v := []) rfl rfl) ?_)
  (repeat (first|refine zS ?_|refine zR ?_|refine zB ?_|refine zL ?_|refine zC ?_|refine zG (zN ?_)|refine zG (zD 0 rfl rfl rfl rfl ?_)|refine zG (zD 1 rfl rfl rfl rfl ?_)))
  refine VO.ent (L' := [rdsH x.rp R.rds, pt p (repCs R x) repT, slH memT 2 x.a R.ch.ms.length x.c (flat memC R.ch.ms), logH x.lp R.log, winH x.wp R.win, admH x.ap R.adm, outH ob []]) (Imp.pick 6 rfl (Imp.pick 1 rfl (Imp.pick 1 rfl (Imp.pick 1 rfl (Imp.pick 1 rfl (Imp.pick 1 rfl (Imp.out (none, 0) (Imp.pick 0 rfl (Imp.slNil Imp.nil))))))))).ent ?_
  refine VO.go (VO.call (Lc := [rdsH x.rp R.rds]) (fun Fr w hF hs hS => Rd.expire_spec Fr w ok.rc0 (by omega) now) rfl rfl ?_)
  rintro _ _ ⟨ga, gc, rows, hrows, rfl, rfl⟩
  have hrowl : rows.length ≤ 16 := by
    have := congrArg List.length hrows
    rw [List.length_map] at this
    have h2 := List.length_filter_le (fun y => !lives now y) R.rds.l
    omega
  show VO _ _ _ _ _ [rdsH x.rp (expR R now).rds, slH rdT 34 ga rows.length gc (flat rdC rows), pt p (repCs R x) repT, slH memT 2 x.a R.ch.ms.length x.c (flat memC R.ch.ms), logH x.lp R.log, winH x.wp R.win, admH x.ap R.adm, outH ob []] _
  refine VO.opn 1 rfl (HOpn.rl rdT ga gc rows rdC_len) ?_
  rintro r ⟨rok, hrv, hrx⟩
  show VO _ _ _ _ _ [r.h rdT, rdsH x.rp (expR R now).rds, pt p (repCs R x) repT, slH memT 2 x.a R.ch.ms.length x.c (flat memC R.ch.ms), logH x.lp R.log, winH x.wp R.win, admH x.ap R.adm, outH ob []] _
  (repeat (first|refine zS ?_|refine zR ?_|refine zB ?_|refine zL ?_|refine zC ?_|refine zG (zN ?_)|refine zG (zD 0 rfl rfl rfl rfl ?_)))
  have hexp : ∀ i, i ≤ rows.length → ((rows.take i).map fun y => y.1.f).length = i := fun i hi => by simp; omega
  refine VC.loop (σ := Nat) (fun i => [(0, .pointer (some ⟨p, 0, none⟩)), (1, .int .i64 now), (5, .pointer (some ⟨ob, 0, none⟩)), (6, sendF ob), (18, .slice ga rows.length gc), (19, .int .i64 rows.length), (20, .int .i64 i)])
    (fun i => [r.h rdT, rdsH x.rp (expR R now).rds, pt p (repCs R x) repT, slH memT 2 x.a R.ch.ms.length x.c (flat memC R.ch.ms), logH x.lp R.log, winH x.wp R.win, admH x.ap R.adm, outH ob (refs R.ch.epoch ((rows.take i).map fun y => y.1.f) 2)])
    (fun i => i ≤ rows.length) (fun i => rows.length - i) 0
    (Nat.zero_le _) (Sub.cons rfl (Sub.cons rfl (Sub.cons rfl (Sub.cons rfl (Sub.cons rfl (Sub.cons rfl (Sub.cons rfl (Sub.nil _)))))))) Ent.refl ?_
  intro i hi
  (repeat (first|refine zS ?_|refine zR ?_|refine zB ?_|refine zL ?_|refine zC ?_|refine zG (zN ?_)|refine zG (zD 0 rfl rfl rfl rfl ?_)))
  refine VC.condP rfl (fun h1 => VC.skip ?_) (fun h1 => VC.exit ?_)
  · have hi2 : i < rows.length := by omega
    obtain ⟨g, hg⟩ : ∃ g, rows[i]? = some g := ⟨_, List.getElem?_eq_getElem hi2⟩
    have hgm : g.1 ∈ R.rds.l := by
      have h2 : g.1 ∈ rows.map Prod.fst := List.mem_map.2 ⟨g, List.mem_of_getElem? hg, rfl⟩
      rw [hrows] at h2
      exact (List.mem_filter.1 h2).1
    have hcl := ok.rcl g.1 hgm
    obtain ⟨gb, go, r1, r2, hrd⟩ := rok.ld (t := rdT) (hrx ▸ hg) rfl
    obtain rfl : ga = some ⟨gb, go, none⟩ := by rw [RL.v, r2, hrx] at hrv; injection hrv with e1; exact e1.symm
    (repeat (first|refine zS ?_|refine zR ?_|refine zB ?_|refine zL ?_|refine zC ?_|refine zG (zN ?_)|refine zG (zD 0 rfl rfl rfl rfl ?_)))
    refine VO.go (VO.light (light_idx i rfl rfl rfl rfl rfl rfl hi2) ?_)
    refine VO.go (VO.load rfl rfl ((hrd 0 rfl).1 _ rfl rfl) ?_)
    refine VO.go (VO.alloc rfl fun tb => ?_)
    refine VO.go (VO.stA (vs := rdC g) 0 rfl rfl rfl rfl (Nat.le_refl _) rfl rfl rfl ?_)
    (repeat (first|refine zS ?_|refine zR ?_|refine zB ?_|refine zL ?_|refine zC ?_|refine zG (zN ?_)|refine zG (zD 0 rfl rfl rfl rfl ?_)))
    refine VO.go (VO.ldA 0 (fgC g.1.f g.2) rfl rfl rfl rfl ?_)
    refine VO.go (VO.callAt 8 rfl (fun Fr w hF hs hS => refuse_spec Fr w (hS.blk 3 rfl) (by rw [refs, List.length_map, hexp i (by omega)]; omega) g.1.f g.2 hcl.1 (by omega) 2) rfl (ψ := fun v H => v = .tuple #[] ∧ H = outH ob (refs R.ch.epoch ((rows.take i).map fun y => y.1.f) 2 ++ [(32 + g.1.f.client, refuseF R.ch.epoch g.1.f 2)])) (fun v L h => ⟨_, h.2, h.1, rfl⟩) ?_)
    rintro _ _ ⟨rfl, rfl⟩
    (repeat (first|refine zS ?_|refine zR ?_|refine zB ?_|refine zL ?_|refine zC ?_|refine zG (zN ?_)|refine zG (zD 0 rfl rfl rfl rfl ?_)))
    refine VO.go (VO.add rfl rfl (by omega) (by omega) ?_)
    (repeat (first|refine zS ?_|refine zR ?_|refine zB ?_|refine zL ?_|refine zC ?_|refine zG (zN ?_)|refine zG (zD 0 rfl rfl rfl rfl ?_)))
    refine ⟨i + 1, hi2, by dsimp only; omega, Sub.cons rfl (Sub.cons rfl (Sub.cons rfl (Sub.cons rfl (Sub.cons rfl (Sub.cons rfl (Sub.cons rfl (Sub.nil _))))))), ?_⟩
    dsimp only
    rw [show refs R.ch.epoch ((rows.take (i + 1)).map fun y => y.1.f) 2 = refs R.ch.epoch ((rows.take i).map fun y => y.1.f) 2 ++ [(32 + g.1.f.client, refuseF R.ch.epoch g.1.f 2)] by rw [List.take_add_one, hg]; simp [refs]]
    exact (Imp.pick 1 rfl (Imp.pick 1 rfl (Imp.pick 1 rfl (Imp.pick 1 rfl (Imp.pick 1 rfl (Imp.pick 1 rfl (Imp.pick 1 rfl (Imp.pick 1 rfl Imp.nil)))))))).ent
  obtain rfl : i = rows.length := by omega
  rw [List.take_length]
  have hes : refs R.ch.epoch (rows.map fun y => y.1.f) 2 = expS R now := by
    unfold expS
    rw [← hrows, List.map_map]; rfl
  have hel : (expS R now).length ≤ 16 := by rw [← hes, refs, List.length_map, List.length_map]; exact hrowl
  rw [hes]
  refine VC.ent (L' := [repH p (expR R now), outH ob (expS R now)]) (Imp.rep (R := expR R now) x (Imp.pick 2 rfl (Imp.pick 2 rfl (Imp.pick 2 rfl (Imp.pick 2 rfl (Imp.pick 2 rfl (Imp.pick 1 rfl (Imp.pick 1 rfl Imp.nil)))))))).ent ?_
  have hl2 : (step2 R now).2.length ≤ 273000 := by
    unfold step2
    split
    · have := serveLoop_len now 65 ok1; omega
    · simp
  refine VC.seq ?_
  refine VC.meetS (σ := Unit) (fun _ => [(0, .pointer (some ⟨p, 0, none⟩)), (5, .pointer (some ⟨ob, 0, none⟩)), (6, sendF ob)]) (fun _ => [repH p (step2 R now).1, outH ob (expS R now ++ (step2 R now).2)]) (fun _ => True) ?_ ?_
  · have no : servesB (expR R now) = false → ∀ {X : Cx} {y : RepS}, Ent X (repO p (expR R now) y ob (expS R now)) [repH p (step2 R now).1, outH ob (expS R now ++ (step2 R now).2)] := fun h {X} {y} => by
      have e : step2 R now = (expR R now, []) := by rw [step2, h]; rfl
      rw [e, List.append_nil]; exact repO_shut.ent
    refine VC.opn 0 rfl (HOpn.rep p (expR R now)) ?_
    rintro x2 -
    show VC _ _ _ (repO p (expR R now) x2 ob (expS R now)) _
    (repeat (first|refine zS ?_|refine zR ?_|refine zB ?_|refine zL ?_|refine zC ?_|refine zG (zN ?_)|refine zG (zD 0 rfl rfl rfl rfl ?_)))
    refine VO.go (VO.callV' (fun Fr w hF hs hS => head_spec Fr w (RepIn.pcs hS 0 rfl rfl rfl rfl rfl rfl).blk (RepIn.pcs hS 0 rfl rfl rfl rfl rfl rfl).mem ok1.ch) rfl ?_)
    (repeat (first|refine zS ?_|refine zR ?_|refine zB ?_|refine zL ?_|refine zC ?_|refine zG (zN ?_)|refine zG (zD 0 rfl rfl rfl rfl ?_)))
    cases h1 : (expR R now).headB with
    | false =>
      refine VO.go (VO.yes 32 false rfl rfl ?_)
      (repeat (first|refine zS ?_|refine zR ?_|refine zB ?_|refine zL ?_|refine zC ?_|refine zG (zN ?_)|refine zG (zD 0 rfl rfl rfl rfl ?_)|refine zG (zU rfl rfl rfl ?_)))
      refine VO.go (VO.yes 38 false rfl rfl ?_)
      (repeat (first|refine zS ?_|refine zR ?_|refine zB ?_|refine zL ?_|refine zC ?_|refine zG (zN ?_)|refine zG (zD 0 rfl rfl rfl rfl ?_)|refine zG (zU rfl rfl rfl ?_)))
      refine VC.condF rfl (VC.skip ?_)
      exact ⟨(), trivial, Sub.cons rfl (Sub.cons rfl (Sub.cons rfl (Sub.nil _))), no (by rw [servesB, h1]; rfl)⟩
    | true =>
    refine VO.go (VO.yes 32 true rfl rfl ?_)
    (repeat (first|refine zS ?_|refine zR ?_|refine zB ?_|refine zL ?_|refine zC ?_|refine zG (zN ?_)|refine zG (zD 0 rfl rfl rfl rfl ?_)|refine zG (zU rfl rfl rfl ?_)))
    cases h2 : R.whole with
    | false =>
      refine VO.go (VO.yes 38 false rfl h2 ?_)
      (repeat (first|refine zS ?_|refine zR ?_|refine zB ?_|refine zL ?_|refine zC ?_|refine zG (zN ?_)|refine zG (zD 0 rfl rfl rfl rfl ?_)|refine zG (zU rfl rfl rfl ?_)))
      refine VC.condF rfl (VC.skip ?_)
      exact ⟨(), trivial, Sub.cons rfl (Sub.cons rfl (Sub.cons rfl (Sub.nil _))), no (by rw [servesB, h1]; show (true && (R.whole && _)) = false; rw [h2]; rfl)⟩
    | true =>
    refine VO.go (VO.yes 38 true rfl h2 ?_)
    (repeat (first|refine zS ?_|refine zR ?_|refine zB ?_|refine zL ?_|refine zC ?_|refine zG (zN ?_)|refine zG (zD 0 rfl rfl rfl rfl ?_)|refine zG (zU rfl rfl rfl ?_)))
    refine VO.go (VO.callV' (fun Fr w hF hs hS => drains_spec Fr w (RepIn.pcs hS 0 rfl rfl rfl rfl rfl rfl).blk) rfl ?_)
    (repeat (first|refine zS ?_|refine zR ?_|refine zB ?_|refine zL ?_|refine zC ?_|refine zG (zN ?_)|refine zG (zD 0 rfl rfl rfl rfl ?_)|refine zG (zU rfl rfl rfl ?_)))
    refine VC.condN rfl (fun h3 => ?_) (fun h3 => VC.skip ?_)
    rotate_left
    · exact ⟨(), trivial, Sub.cons rfl (Sub.cons rfl (Sub.cons rfl (Sub.nil _))), no (by rw [servesB, h1, h3]; show (true && (R.whole && _)) = false; rw [h2]; rfl)⟩
    have hsb : servesB (expR R now) = true := by rw [servesB, h1, h3]; show (true && (R.whole && _)) = true; rw [h2]; rfl
    have he2 : step2 R now = serveLoop now 65 (expR R now) := by rw [step2, hsb]; rfl
    have ht := tot_le ok1
    refine VC.ent (L' := [repH p (expR R now), outH ob (expS R now)]) repO_shut.ent ?_
    (repeat (first|refine zS ?_|refine zR ?_|refine zB ?_|refine zL ?_|refine zC ?_|refine zG (zN ?_)|refine zG (zD 0 rfl rfl rfl rfl ?_)))
    refine VC.loop (σ := Nat × RepM × List SndM) (fun _ => [(0, .pointer (some ⟨p, 0, none⟩)), (1, .int .i64 now), (5, .pointer (some ⟨ob, 0, none⟩)), (6, sendF ob)]) (fun y => [repH p y.2.1, outH ob (expS R now ++ y.2.2)])
      (fun y => y.2.1.Ok ∧ tot y.2.1.adm < y.1 ∧ y.2.2.length + y.1 * 4200 ≤ 273000 ∧ serveLoop now 65 (expR R now) = ((serveLoop now y.1 y.2.1).1, y.2.2 ++ (serveLoop now y.1 y.2.1).2)) (fun y => y.1) (65, expR R now, [])
      ⟨ok1, by dsimp only; omega, by simp, rfl⟩ (Sub.cons rfl (Sub.cons rfl (Sub.cons rfl (Sub.cons rfl (Sub.nil _))))) (by dsimp only; rw [List.append_nil]; exact Ent.refl) ?_
    rintro ⟨k, Q, T⟩ ⟨okQ, htQ, hlT, hlp⟩
    dsimp only at okQ htQ hlT hlp ⊢
    obtain ⟨k, rfl⟩ : ∃ j, k = j + 1 := ⟨k - 1, by omega⟩
    have q1 := okQ.win.last1; have q2 := okQ.last
    refine VC.opn 0 rfl (HOpn.rep p Q) ?_
    rintro x3 -
    show VC _ _ _ (repO p Q x3 ob (expS R now ++ T)) _
    unfold repO
    (repeat (first|refine zS ?_|refine zR ?_|refine zB ?_|refine zL ?_|refine zC ?_|refine zG (zN ?_)|refine zG (zD 0 rfl rfl rfl rfl ?_)))
    refine VO.go (VO.callV' (fun Fr w hF hs hS => Win.free_spec Fr w (hS.blk 3 rfl) okQ.win) rfl ?_)
    (repeat (first|refine zS ?_|refine zR ?_|refine zB ?_|refine zL ?_|refine zC ?_|refine zG (zN ?_)|refine zG (zD 0 rfl rfl rfl rfl ?_)))
    by_cases hroom : Q.win.room = true
    · have hr2 : Q.win.last < Q.win.done + Q.win.cap ∧ Q.win.last < 4096 := by simpa [WinM.room] using hroom
      refine VO.go (VO.yes 49 true rfl (decide_eq_true (by omega)) ?_)
      (repeat (first|refine zS ?_|refine zR ?_|refine zB ?_|refine zL ?_|refine zC ?_|refine zG (zN ?_)|refine zG (zD 0 rfl rfl rfl rfl ?_)|refine zG (zU rfl rfl rfl ?_)))
      refine VO.go (VO.callV' (fun Fr w hF hs hS => Lg.len_spec Fr w (hS.at_ 2 rfl)) rfl ?_)
      (repeat (first|refine zS ?_|refine zR ?_|refine zB ?_|refine zL ?_|refine zC ?_|refine zG (zN ?_)|refine zG (zD 0 rfl rfl rfl rfl ?_)|refine zG (zU rfl rfl rfl ?_)))
      refine VO.go (VO.yes 57 true rfl (decide_eq_true (by omega)) ?_)
      (repeat (first|refine zS ?_|refine zR ?_|refine zB ?_|refine zL ?_|refine zC ?_|refine zG (zN ?_)|refine zG (zD 0 rfl rfl rfl rfl ?_)|refine zG (zU rfl rfl rfl ?_)))
      refine VO.ent (L' := [repH p Q, outH ob (expS R now ++ T)]) (repO_shut (x := x3)).ent ?_
      refine VO.go (VO.call (Lc := [repH p Q, outH ob (expS R now ++ T)]) (Lr := []) (fun Fr w hF hs hS => serve_spec Fr w okQ hroom (by rw [List.length_append]; omega) now) rfl rfl ?_)
      rintro _ _ ⟨rfl, rfl⟩
      have hss := serve_sends okQ hroom now
      (repeat (first|refine zS ?_|refine zR ?_|refine zB ?_|refine zL ?_|refine zC ?_|refine zG (zN ?_)|refine zG (zD 0 rfl rfl rfl rfl ?_)|refine zG (zU rfl rfl rfl ?_)))
      refine VC.cond rfl (fun hs => VC.skip ?_) (fun hs => VC.exit ?_)
      · have hst := serve_tot okQ now hs
        (repeat (first|refine zS ?_|refine zR ?_|refine zB ?_|refine zL ?_|refine zC ?_|refine zG (zN ?_)|refine zG (zD 0 rfl rfl rfl rfl ?_)))
        refine VC.skip ?_
        refine ⟨(k, (serveR Q now).1, T ++ (serveR Q now).2.1), ⟨serveR_ok okQ hroom now, by dsimp only; omega, by dsimp only; rw [List.length_append]; omega, ?_⟩, by dsimp only; omega, Sub.cons rfl (Sub.cons rfl (Sub.cons rfl (Sub.cons rfl (Sub.nil _)))), ?_⟩
        · dsimp only
          rw [hlp, serveLoop, if_pos hroom, if_pos hs, List.append_assoc]
        · dsimp only; rw [← List.append_assoc]; exact Ent.refl
      · refine ⟨(), trivial, Sub.cons rfl (Sub.cons rfl (Sub.cons rfl (Sub.nil _))), ?_⟩
        rw [he2, hlp, serveLoop, if_pos hroom, if_neg (by rw [hs]; simp), ← List.append_assoc]
        exact Ent.refl
    · have hr2 : ¬ (0 < max (min (Q.win.done + Q.win.cap) 4096 - Q.win.last) 0) := fun h => hroom (by simp only [WinM.room, Bool.and_eq_true, decide_eq_true_eq]; omega)
      refine VO.go (VO.yes 49 false rfl (decide_eq_false hr2) ?_)
      (repeat (first|refine zS ?_|refine zR ?_|refine zB ?_|refine zL ?_|refine zC ?_|refine zG (zN ?_)|refine zG (zD 0 rfl rfl rfl rfl ?_)|refine zG (zU rfl rfl rfl ?_)))
      refine VO.go (VO.yes 57 false rfl rfl ?_)
      (repeat (first|refine zS ?_|refine zR ?_|refine zB ?_|refine zL ?_|refine zC ?_|refine zG (zN ?_)|refine zG (zD 0 rfl rfl rfl rfl ?_)|refine zG (zU rfl rfl rfl ?_)))
      refine VC.condF rfl (VC.exit ?_)
      refine ⟨(), trivial, Sub.cons rfl (Sub.cons rfl (Sub.cons rfl (Sub.nil _))), ?_⟩
      rw [he2, hlp, serveLoop, if_neg hroom, List.append_nil]
      exact (repO_shut (x := x3)).ent
  rintro _ -
  refine VC.seq ?_
  refine VC.meetS (σ := Unit) (fun _ => [(5, .pointer (some ⟨ob, 0, none⟩))]) (fun _ => [repH p (stepR R now).1, outH ob (stepR R now).2]) (fun _ => True) ?_ ?_
  · refine VC.opn 0 rfl (HOpn.rep p (step2 R now).1) ?_
    rintro x2 -
    show VC _ _ _ (repO p (step2 R now).1 x2 ob (expS R now ++ (step2 R now).2)) _
    unfold repO
    (repeat (first|refine zS ?_|refine zR ?_|refine zB ?_|refine zL ?_|refine zC ?_|refine zG (zN ?_)|refine zG (zD 0 rfl rfl rfl rfl ?_)))
    refine VC.cond rfl (fun hk => ?_) (fun hk => VC.skip ?_)
    · have e3 : step3 R now = passR (step2 R now).1 := by rw [step3, hk]; rfl
      refine VC.ent (L' := [repH p (step2 R now).1, outH ob (expS R now ++ (step2 R now).2)]) (repO_shut (x := x2)).ent ?_
      (repeat (first|refine zS ?_|refine zR ?_|refine zB ?_|refine zL ?_|refine zC ?_|refine zG (zN ?_)|refine zG (zD 0 rfl rfl rfl rfl ?_)))
      refine VO.go (VO.call (Lc := [repH p (step2 R now).1, outH ob (expS R now ++ (step2 R now).2)]) (Lr := []) (fun Fr w hF hs hS => pass_spec Fr w ok2 (by rw [List.length_append]; omega)) rfl rfl ?_)
      rintro _ _ ⟨rfl, rfl⟩
      (repeat (first|refine zS ?_|refine zR ?_|refine zB ?_|refine zL ?_|refine zC ?_|refine zG (zN ?_)|refine zG (zD 0 rfl rfl rfl rfl ?_)))
      exact ⟨(), trivial, Sub.cons rfl (Sub.nil _), by show Ent _ _ [repH p (step3 R now).1, outH ob (expS R now ++ (step2 R now).2 ++ (step3 R now).2)]; rw [e3]; exact Ent.refl⟩
    · have e3 : step3 R now = ((step2 R now).1, []) := by rw [step3, hk]; rfl
      exact ⟨(), trivial, Sub.cons rfl (Sub.nil _), by show Ent _ _ [repH p (step3 R now).1, outH ob (expS R now ++ (step2 R now).2 ++ (step3 R now).2)]; rw [e3, List.append_nil]; exact (repO_shut (x := x2)).ent⟩
  rintro _ -
  refine VC.opn 1 rfl (HOpn.out ob _) ?_
  rintro ⟨a, c⟩ -
  show VC _ _ _ [pt ob [.slice a (stepR R now).2.length c] outT, slH sndT 30 a (stepR R now).2.length c (flat sndC (stepR R now).2), repH p (stepR R now).1] _
  (repeat (first|refine zS ?_|refine zR ?_|refine zB ?_|refine zL ?_|refine zC ?_|refine zG (zN ?_)|refine zG (zD 0 rfl rfl rfl rfl ?_)))
  exact VC.ret (Ret.tmp 4 rfl rfl (Imp.pick 2 rfl (Imp.pick 1 rfl Imp.nil)).ent ⟨a, c, rfl, rfl⟩)
end
end Go.Proofs.YtbbnmgakmcppdaaGreat.Rep
