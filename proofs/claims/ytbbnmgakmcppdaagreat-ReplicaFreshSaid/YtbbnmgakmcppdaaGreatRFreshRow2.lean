/- Nodes: one that comes into a chain has nothing, and becomes whole. Plain. No condition. -/
import Derived.Test.YtbbnmgakmcppdaaGreatRepB
import Derived.Test.YtbbnmgakmcppdaaGreatAArg
namespace Go.Proofs.YtbbnmgakmcppdaaGreat.Rep
open Go Go.Proofs.YtbbnmgakmcppdaaGreat.Vg Go.Proofs.YtbbnmgakmcppdaaGreat.T Go.Proofs.YtbbnmgakmcppdaaGreat.Api Go.Proofs.YtbbnmgakmcppdaaGreat.Kv Go.Proofs.YtbbnmgakmcppdaaGreat.Ch Go.Proofs.YtbbnmgakmcppdaaGreat.Lg Go.Proofs.YtbbnmgakmcppdaaGreat.Rd Go.Proofs.YtbbnmgakmcppdaaGreat.Win Go.Proofs.YtbbnmgakmcppdaaGreat.Adm Go.Proofs.YtbbnmgakmcppdaaGreat.Sched Go.Proofs.YtbbnmgakmcppdaaGreat.Conf
set_option linter.unusedSimpArgs false
set_option linter.unusedVariables false

def cF (c : ConfM) : ConfM := { fitM c with nodes := 3, chain := 2 }
theorem cF_fit (c : ConfM) : cF c = fitM (cF c) := by
  have h := fit_idem c
  have e : ∀ {a b : ConfM}, a = b → a.clients = b.clients ∧ a.qs = b.qs ∧ a.queue = b.queue ∧ a.window = b.window ∧ a.reads = b.reads ∧ a.link = b.link ∧ a.patience = b.patience ∧ a.timeout = b.timeout ∧ a.budget = b.budget ∧ a.refill = b.refill := fun h => by subst h; exact ⟨rfl, rfl, rfl, rfl, rfl, rfl, rfl, rfl, rfl, rfl⟩
  obtain ⟨h1, h2, h3, h4, h5, h6, h7, h8, h9, h10⟩ := e h
  exact conf_ext (by show (3 : Int) = near 3 1 6; decide) (by show (2 : Int) = near 2 1 (near 3 1 6); decide) h1 h2 h3 h4 h5 h6 h7 h8 h9 h10
def chF : ChM := ⟨2, [(0, 1), (1, 1), (2, 2)], -1⟩
def cfgF : FrameM := { FrameM.zero with kind := 8, cepoch := 2, drain := -1 }
def getF : FrameM := { FrameM.zero with kind := 1, epoch := 2, client := 0, seq := 1, try_ := 1, deadline := 99, op := ⟨1, ⟨#[107]⟩, ⟨#[]⟩, 0⟩ }
def entF (i : Nat) : EntryM := ⟨i + 1, 0, i + 1, ⟨2, ⟨#[107]⟩, ⟨#[118]⟩, 0⟩⟩
def entsF (i : Nat) : List EntryM := (List.range i).map entF
def fwdF (i : Nat) : FrameM := { FrameM.zero with kind := 4, epoch := 2, entry := entF i }
def basF (b : Int) : FrameM := { FrameM.zero with kind := 6, epoch := 2, index := b }
theorem entsF_len (i : Nat) : (entsF i).length = i := by simp [entsF]
theorem entsF_succ (i : Nat) : entsF (i + 1) = entsF i ++ [entF i] := by simp [entsF, List.range_succ]
theorem entsF_err : ∀ i ∈ List.range 40, logErr (entsF i) (entF i) = 0 := by decide +kernel
theorem chF_is : tailOf chF = 2 ∧ prevOf chF 2 = 1 ∧ chE chF = 0 ∧ sinceOf chF 2 = (2, true) ∧ readsB getF.op = true := by decide +kernel
section
variable {R : RepM} {from_ : Int} {f : FrameM} {ms : List MemM} {now : Int}
theorem take_call (h : f.kind = 1) (h0 : 0 ≤ f.client) (h1 : f.client < R.clients) : takeR R from_ f ms now = if readsB f.op = true then readR R f now else updateR R f now := by
  unfold takeR; rw [if_pos h, if_neg (by omega), if_neg (by omega)]
theorem take_fwd (h : f.kind = 4) : takeR R from_ f ms now = if R.knownB f = true ∧ isNodeB from_ R.prevM = true then forwardR R f.entry else (R, []) := by
  unfold takeR; rw [if_neg (by omega), if_neg (by omega), if_pos h]
theorem take_ack (h : f.kind = 5) : takeR R from_ f ms now = if R.knownB f = true ∧ isNodeB from_ R.nextM = true then ackR R f else (R, []) := by
  unfold takeR; rw [if_neg (by omega), if_neg (by omega), if_neg (by omega), if_pos h]
theorem take_base (h : f.kind = 6) : takeR R from_ f ms now = if R.knownB f = true ∧ isNodeB from_ R.prevM = true then ((baseR R f.index).becomeR, (baseR R f.index).becomeM) else (R, []) := by
  unfold takeR; rw [if_neg (by omega), if_neg (by omega), if_neg (by omega), if_neg (by omega), if_pos h]
end
structure FrI (b : Int) (i : Nat) (R : RepM) : Prop where
  fit : R.Fit
  ch : R.ch = chF
  id : R.id = 2
  since : R.since = 2
  whole : R.whole = (decide (0 ≤ b) && decide (b ≤ i))
  base : R.base = b
  log : R.log = entsF i
  last : R.win.last = i
  done : R.win.done = i
  rl : R.rds.l = []
  rlast : R.rds.last = 0
  cl : 1 ≤ R.clients
  low : -1 ≤ b
theorem FrI.tail {b : Int} {i : Nat} {R : RepM} (h : FrI b i R) : R.tailB = true := by
  rw [RepM.tailB, RepM.inB, h.since, h.ch, chF_is.1, h.id]; rfl
theorem new_blank (c : ConfM) : (newR (cF c) 2 false).whole = false ∧ (newR (cF c) 2 false).since = 0 := by
  have e : sinceOf (firstC (cF c)) 2 = (0, false) := by
    show sinceOf ⟨1, firstMs 2, -1⟩ 2 = (0, false)
    decide +kernel
  unfold newR
  rw [if_neg (by simp), if_neg (by rw [e]; simp)]
  exact ⟨rfl, rfl⟩
theorem new_is (c : ConfM) : newR (cF c) 2 false = { newR0 (cF c) 2 with ch := firstC (cF c) } := by
  have e : sinceOf (firstC (cF c)) 2 = (0, false) := by
    show sinceOf ⟨1, firstMs 2, -1⟩ 2 = (0, false)
    decide +kernel
  unfold newR
  rw [if_neg (by simp), if_neg (by rw [e]; simp)]
theorem fr_enter (c : ConfM) : FrI (-1) 0 (takeR (newR (cF c) 2 false) 16 cfgF chF.ms 0).1 := by
  have hb := conf_bounds (cF_fit c)
  have f0 := newR_fit (cF_fit c) 2 false
  have hf := takeR_fit f0 (by rw [new_is]; exact (by decide : (0 : Int) < 100000000)) 16 cfgF chF.ms 0
  have e1 : takeR (newR (cF c) 2 false) 16 cfgF chF.ms 0 = enterR (newR (cF c) 2 false) chF := by
    unfold takeR
    rw [if_neg (by decide), if_pos (by decide), if_pos ⟨⟨rfl, chF_is.2.2.1⟩, by rw [new_is]; exact (by decide : (1 : Int) < 2)⟩]; rfl
  rw [e1] at hf ⊢
  rw [new_is] at hf ⊢
  have hs := chF_is.2.2.2.1
  generalize hR : ({ newR0 (cF c) 2 with ch := firstC (cF c) } : RepM) = R at hf ⊢
  have i1 : R.id = 2 := by rw [← hR]; rfl
  have i2 : R.since = 0 := by rw [← hR]; rfl
  have i3 : R.whole = false := by rw [← hR]; rfl
  have i4 : R.clients = (cF c).clients := by rw [← hR]; rfl
  have i5 : R.rds.last = 0 := by rw [← hR]; rfl
  have n1 : nlB R chF = true := by rw [nlB, i1, i2, hs]; rfl
  have n2 : nwB R chF = true := by rw [nwB, i1, i2, hs]; rfl
  have w4 : (ent4 R chF).whole = false := by show (if nwB R chF then false else R.whole) = false; rw [n2]; rfl
  have e5 : ent5 R chF = ent4 R chF := by rw [ent5, w4]; rfl
  have l4 : (ent4 R chF).win = { WinM.new R.cap with sent := 0, limit := 0 } := by show ({ (if nlB R chF then WinM.new R.cap else R.win) with sent := (if nlB R chF then WinM.new R.cap else R.win).last, limit := 0 } : WinM) = _; rw [n1]; rfl
  have g4 : (ent4 R chF).log = [] := by show (if nlB R chF then [] else R.log) = []; rw [n1]; rfl
  have s4 : (ent4 R chF).since = 2 := by show (sinceOf chF R.id).1 = 2; rw [i1, hs]
  have hst := finish_stays (ent4 R chF)
  have hw : (ent4 R chF).finishR.win.last = 0 ∧ (ent4 R chF).finishR.win.done = 0 := by
    unfold RepM.finishR; split
    · show (WinM.ack _ _).last = 0 ∧ (WinM.ack _ _).done = 0
      rw [l4]; exact ⟨rfl, rfl⟩
    · rw [l4]; exact ⟨rfl, rfl⟩
  have ho : (ent4 R chF).finishR.ch = chF ∧ (ent4 R chF).finishR.since = 2 ∧ (ent4 R chF).finishR.whole = false ∧ (ent4 R chF).finishR.base = -1 ∧ (ent4 R chF).finishR.log = [] ∧ (ent4 R chF).finishR.rds.l = [] ∧ (ent4 R chF).finishR.rds.last = 0 := by
    unfold RepM.finishR; split <;> exact ⟨rfl, s4, w4, rfl, g4, rfl, i5⟩
  have er : (enterR R chF).1 = (ent4 R chF).finishR := by show (ent5 R chF).finishR = _; rw [e5]
  rw [er] at hf ⊢
  exact ⟨hf, ho.1, by rw [hst.id]; exact i1, ho.2.1, by rw [ho.2.2.1]; rfl, ho.2.2.2.1, by rw [ho.2.2.2.2.1]; rfl, hw.1, hw.2, ho.2.2.2.2.2.1, ho.2.2.2.2.2.2, by rw [hst.clients]; show 1 ≤ R.clients; rw [i4]; omega, by decide⟩
/-- An entry comes, in order. -/
theorem fr_next {b : Int} {i : Nat} {R : RepM} (h : FrI b i R) (hi : i < 40) : FrI b (i + 1) (takeR R 1 (fwdF i) [] 0).1 := by
  have hf := takeR_fit h.fit (by rw [h.rlast]; decide) 1 (fwdF i) [] 0
  have hst := take_stays R 1 (fwdF i) [] 0
  have hw := h.fit.ok.win
  have w0 := hw.cap0
  have hl := h.last; have hd := h.done
  have he : fwdB R (entF i) = true ∧ logErr R.log (entF i) = 0 := by
    refine ⟨?_, by rw [h.log]; exact entsF_err i (List.mem_range.2 hi)⟩
    rw [fwdB, Bool.and_eq_true]
    refine ⟨by rw [hl]; show ((i : Int) + 1 == i + 1) = true; simp, decide_eq_true (by omega)⟩
  have e1 : takeR R 1 (fwdF i) [] 0 = forwardR R (entF i) := by
    rw [take_fwd rfl, if_pos ⟨by rw [RepM.knownB, h.ch]; rfl, by rw [RepM.prevM, h.ch, h.id, chF_is.2.1]; rfl⟩]
    rfl
  rw [e1] at hf hst ⊢
  have e2 : (forwardR R (entF i)).1 = (pushE R (entF i)).finishR.becomeR := by rw [forwardR, if_pos he]
  rw [e2] at hf hst ⊢
  have ht : (pushE R (entF i)).tailB = true := h.tail
  have e3 : (pushE R (entF i)).finishR = { pushE R (entF i) with win := (pushE R (entF i)).win.ack (pushE R (entF i)).win.last } := by rw [RepM.finishR, if_pos ht]
  have hlast : (pushE R (entF i)).win.last = (i : Int) + 1 := by show R.win.last + 1 = _; rw [hl]
  have hk : ((pushE R (entF i)).win.ack (pushE R (entF i)).win.last).last = (i : Int) + 1 ∧ ((pushE R (entF i)).win.ack (pushE R (entF i)).win.last).done = (i : Int) + 1 := by
    have : (pushE R (entF i)).win.ackB (pushE R (entF i)).win.last = true := by
      rw [WinM.ackB, hlast, Bool.and_eq_true]
      exact ⟨decide_eq_true (by show R.win.done < _; omega), decide_eq_true (by omega)⟩
    rw [WinM.ack, if_pos this]
    exact ⟨hlast, hlast⟩
  generalize hQ : (pushE R (entF i)).finishR = Q at *
  have q : Q.ch = chF ∧ Q.id = 2 ∧ Q.since = 2 ∧ Q.whole = R.whole ∧ Q.base = b ∧ Q.log = entsF (i + 1) ∧ Q.win.last = (i : Int) + 1 ∧ Q.win.done = (i : Int) + 1 ∧ Q.rds.l = [] ∧ Q.rds.last = 0 := by
    rw [e3]
    exact ⟨h.ch, h.id, h.since, rfl, h.base, by show R.log ++ [entF i] = _; rw [h.log, entsF_succ], hk.1, hk.2, h.rl, h.rlast⟩
  obtain ⟨q1, q2, q3, q4, q5, q6, q7, q8, q9, q10⟩ := q
  have hb : Q.becomeB = (!(decide (0 ≤ b) && decide (b ≤ i)) && (decide (b ≠ -1) && decide (b ≤ (i : Int) + 1))) := by
    rw [RepM.becomeB, RepM.inB, q3, q4, h.whole, q5, q7]; rfl
  have hcl : 1 ≤ Q.becomeR.clients := by rw [hst.clients]; exact h.cl
  have hk1 : ∀ j : Int, -1 ≤ b → True := fun _ _ => trivial
  by_cases hbb : Q.becomeB = true
  · have e4 : Q.becomeR = { Q with whole := true, start := Q.win.last } := by rw [RepM.becomeR, if_pos hbb]
    refine ⟨hf, by rw [e4]; exact q1, by rw [e4]; exact q2, by rw [e4]; exact q3, ?_, by rw [e4]; exact q5, by rw [e4]; exact q6, by rw [e4]; exact q7, by rw [e4]; exact q8, by rw [e4]; exact q9, by rw [e4]; exact q10, hcl, h.low⟩
    rw [e4]
    rw [hb] at hbb
    simp only [Bool.and_eq_true, Bool.not_eq_true', decide_eq_true_eq, Bool.and_eq_false_iff, decide_eq_false_iff_not] at hbb
    show true = _
    rw [eq_comm, Bool.and_eq_true]
    have := h.low
    exact ⟨decide_eq_true (by omega), decide_eq_true (by push_cast; omega)⟩
  · have e4 : Q.becomeR = Q := by rw [RepM.becomeR, if_neg hbb]
    refine ⟨hf, by rw [e4]; exact q1, by rw [e4]; exact q2, by rw [e4]; exact q3, ?_, by rw [e4]; exact q5, by rw [e4]; exact q6, by rw [e4]; exact q7, by rw [e4]; exact q8, by rw [e4]; exact q9, by rw [e4]; exact q10, hcl, h.low⟩
    rw [e4, q4, h.whole]
    rw [hb] at hbb
    have := h.low
    by_cases h0 : 0 ≤ b
    · rw [decide_eq_true h0] at hbb ⊢
      by_cases h1 : b ≤ (i : Int)
      · rw [decide_eq_true h1, decide_eq_true (show b ≤ ((i + 1 : Nat) : Int) by push_cast; omega)]
      · rw [decide_eq_false h1, decide_eq_true (show b ≠ -1 by omega)] at hbb
        rw [decide_eq_false h1]
        have h2 : ¬ b ≤ (i : Int) + 1 := fun h2 => hbb (by rw [decide_eq_true h2]; rfl)
        rw [decide_eq_false (show ¬ b ≤ ((i + 1 : Nat) : Int) by push_cast; omega)]
    · rw [decide_eq_false h0]; rfl
/-- The base comes. -/
theorem fr_base {i : Nat} {R : RepM} (h : FrI (-1) i R) {b : Int} (hb : 0 ≤ b) : FrI b i (takeR R 1 (basF b) [] 0).1 := by
  have hf := takeR_fit h.fit (by rw [h.rlast]; decide) 1 (basF b) [] 0
  have hst := take_stays R 1 (basF b) [] 0
  have e1 : takeR R 1 (basF b) [] 0 = ((baseR R b).becomeR, (baseR R b).becomeM) := by
    rw [take_base rfl, if_pos ⟨by rw [RepM.knownB, h.ch]; rfl, by rw [RepM.prevM, h.ch, h.id, chF_is.2.1]; rfl⟩]
    rfl
  have hcl : 1 ≤ (takeR R 1 (basF b) [] 0).1.clients := by rw [hst.clients]; exact h.cl
  rw [e1] at hf hst hcl ⊢
  have hw : R.whole = false := by rw [h.whole]; rfl
  have hm : max b (-1) = b := by omega
  have hbe : (baseR R b).becomeB = decide (b ≤ (i : Int)) := by
    rw [RepM.becomeB, RepM.inB]
    show (decide (0 < R.since) && (!R.whole && (decide (max b (-1) ≠ -1) && decide (max b (-1) ≤ R.win.last)))) = _
    rw [h.since, hw, hm, h.last, decide_eq_true (show b ≠ -1 by omega)]; rfl
  by_cases hbb : b ≤ (i : Int)
  · have e4 : (baseR R b).becomeR = { baseR R b with whole := true, start := R.win.last } := by rw [RepM.becomeR, hbe, if_pos (decide_eq_true hbb)]; rfl
    dsimp only at hf hcl ⊢
    rw [e4] at hf hcl ⊢
    exact ⟨hf, h.ch, h.id, h.since, by show true = _; rw [decide_eq_true hb, decide_eq_true hbb]; rfl, hm, h.log, h.last, h.done, h.rl, h.rlast, hcl, by omega⟩
  · have e4 : (baseR R b).becomeR = baseR R b := by rw [RepM.becomeR, hbe, decide_eq_false hbb]; rfl
    dsimp only at hf hcl ⊢
    rw [e4] at hf hcl ⊢
    exact ⟨hf, h.ch, h.id, h.since, by show R.whole = _; rw [hw, decide_eq_false hbb, Bool.and_false], hm, h.log, h.last, h.done, h.rl, h.rlast, hcl, by omega⟩
/-- It is asked. -/
theorem fr_get {b : Int} {i : Nat} {R : RepM} (h : FrI b i R) : (R.whole = false → takeR R 32 getF [] 0 = (R, [(32, refuseF 2 getF 8)])) ∧ (R.whole = true → (takeR R 32 getF [] 0).2 = [(16, confirmF 2 1)] ∧ (takeR R 32 getF [] 0).1.whole = true) := by
  have hc := h.cl
  have e1 : takeR R 32 getF [] 0 = readR R getF 0 := by
    rw [take_call rfl (by decide) (by show (0 : Int) < R.clients; omega), if_pos chF_is.2.2.2.2]
  have k1 : R.knownB getF = true := by rw [RepM.knownB, h.ch]; rfl
  rw [e1]
  constructor
  · intro hw
    have e2 : readReason R getF 0 = 8 := by rw [readReason, if_neg (by rw [k1]; simp), if_neg (by rw [h.tail]; simp), if_pos hw]
    rw [readR, e2, if_pos (by decide), h.ch]; rfl
  · intro hw
    have hm := h.fit.most; have hr := h.fit.ok.rc0
    have e2 : readReason R getF 0 = 0 := by
      rw [readReason, if_neg (by rw [k1]; simp), if_neg (by rw [h.tail]; simp), if_neg (by rw [hw]; simp), if_neg (by decide), h.rl, if_neg (by show ¬ R.most ≤ (0 : Int); omega)]
    rw [readR, e2, if_neg (by simp), h.ch, h.rlast]
    exact ⟨rfl, hw⟩
end Go.Proofs.YtbbnmgakmcppdaaGreat.Rep
namespace Go.Proofs.YtbbnmgakmcppdaaGreat.Rep
open Go Go.Proofs.YtbbnmgakmcppdaaGreat.Vg Go.Proofs.YtbbnmgakmcppdaaGreat.T Go.Proofs.YtbbnmgakmcppdaaGreat.Api Go.Proofs.YtbbnmgakmcppdaaGreat.Kv Go.Proofs.YtbbnmgakmcppdaaGreat.Ch Go.Proofs.YtbbnmgakmcppdaaGreat.Lg Go.Proofs.YtbbnmgakmcppdaaGreat.Rd Go.Proofs.YtbbnmgakmcppdaaGreat.Win Go.Proofs.YtbbnmgakmcppdaaGreat.Adm Go.Proofs.YtbbnmgakmcppdaaGreat.Sched Go.Proofs.YtbbnmgakmcppdaaGreat.Conf
set_option linter.unusedSimpArgs false
set_option linter.unusedVariables false
attribute [local irreducible] VO VC VA

/-- What a step of a statement's node asks of the world: a frame without members is taken. -/
theorem takeI {b : Int} {i : Nat} {R : RepM} (h : FrI b i R) (Fr : Nat → Prop) (w : World) {p : Nat} (from_ : Int) (f : FrameM) (now : Int) (h1 : -9223372036854775808 ≤ f.entry.index) (h2 : f.entry.index ≤ 9223372036854775807) :
    Tri Tryz.prog 17 [.pointer (some ⟨p, 0, none⟩), .int .i64 from_, .agg (fgC f mem0).toArray, .int .i64 now] Fr w [repH p R] (fun v L => sent (takeR R from_ f [] now).2 v L [repH p (takeR R from_ f [] now).1]) :=
  take0_spec Fr w h.fit (by rw [h.rlast]; decide) from_ f now h1 h2
set_option maxRecDepth 100000 in
set_option maxHeartbeats 8000000 in
theorem fresh_spec (Fr : Nat → Prop) (w : World) (c : ConfM) (ca : Option Addr) (cc : Nat) (hq : IntsIn Fr w ca c.qs) (base many : Int) (hb0 : 0 ≤ base ∧ base ≤ 255) (hm0 : 0 ≤ many ∧ many ≤ 255) :
    Tri Tryz.prog 3 [.agg (c.cells ca cc).toArray, .int .u8 base, .int .u8 many] Fr w [] (fun v L => v = .bool true ∧ L = []) := by
  have hbl := new_blank c
  refine Tri.of 150 Tryz.func3 rfl (by kernel_rfl) tabOk rfl rfl ?_
  refine VC.seq (VC.region (VO.go (VO.boxA (vs := c.cells ca cc) rfl fun cb => ?_)))
  (repeat (first | refine VC.seq ?_ | refine VC.region ?_ | refine VC.block ?_ | refine VC.label ?_ | refine VC.scope ?_ | refine VO.go (VO.nil ?_) | refine VO.go (VO.ld 0 rfl rfl rfl rfl ?_)))
  refine VC.condP rfl (fun h1 => ?_) (fun h1 => VC.skip ?_)
  · (repeat (first | refine VC.seq ?_ | refine VC.region ?_ | refine VC.block ?_ | refine VC.label ?_ | refine VC.scope ?_ | refine VO.go (VO.nil ?_) | refine VO.go (VO.ld 0 rfl rfl rfl rfl ?_)))
    refine VO.go (VO.callV (fun Fr w => led_spec Fr w) rfl ?_)
    (repeat (first | refine VC.seq ?_ | refine VC.region ?_ | refine VC.block ?_ | refine VC.label ?_ | refine VC.scope ?_ | refine VO.go (VO.nil ?_) | refine VO.go (VO.ld 0 rfl rfl rfl rfl ?_)))
    exact VC.ret (Ret.bool 6 rfl rfl rfl Imp.nil.ent ⟨rfl, rfl⟩)
  (repeat (first | refine VC.seq ?_ | refine VC.region ?_ | refine VC.block ?_ | refine VC.label ?_ | refine VC.scope ?_ | refine VO.go (VO.nil ?_) | refine VO.go (VO.ld 0 rfl rfl rfl rfl ?_)))
  refine VO.go (VO.ldA 0 (c.cells ca cc) rfl rfl rfl rfl ?_)
  refine VO.go (VO.call (Lc := []) (fun Fr w hF hs _ => rfit_spec Fr w c ca cc (ints_of hq hF hs)) rfl rfl ?_)
  rintro _ _ ⟨a, cap, ha, hcap, rfl, rfl⟩
  refine VO.go (VO.stA (vs := (fitM c).cells a cap) (cs' := (fitM c).cells a cap) 1 rfl rfl rfl rfl (Nat.le_refl _) rfl rfl rfl (VO.go (VO.nil ?_)))
  (repeat (first | refine VC.seq ?_ | refine VC.region ?_ | refine VC.block ?_ | refine VC.label ?_ | refine VC.scope ?_ | refine VO.go (VO.nil ?_) | refine VO.go (VO.ld 0 rfl rfl rfl rfl ?_)))
  refine VO.go (VO.st 1 (cs' := { fitM c with nodes := 3 }.cells a cap) rfl rfl rfl rfl (by show 0 < 12; omega) rfl rfl ?_)
  (repeat (first | refine VC.seq ?_ | refine VC.region ?_ | refine VC.block ?_ | refine VC.label ?_ | refine VC.scope ?_ | refine VO.go (VO.nil ?_) | refine VO.go (VO.ld 0 rfl rfl rfl rfl ?_)))
  refine VO.go (VO.st 1 (cs' := (cF c).cells a cap) rfl rfl rfl rfl (by show 1 < 12; omega) rfl rfl ?_)
  (repeat (first | refine VC.seq ?_ | refine VC.region ?_ | refine VC.block ?_ | refine VC.label ?_ | refine VC.scope ?_ | refine VO.go (VO.nil ?_) | refine VO.go (VO.ld 0 rfl rfl rfl rfl ?_)))
  refine VO.go (VO.ldA 1 ((cF c).cells a cap) rfl rfl rfl rfl ?_)
  refine VO.go (VO.call (Lc := []) (fun Fr w _ _ h2 => new_spec Fr w (cF c) a cap (ints_sl (h2.at_ 0 rfl)) ha hcap 2 false) rfl rfl ?_)
  intro v L hv
  rw [if_pos (show newOkB (cF c) 2 from ⟨cF_fit c, by decide, by show (2 : Int) < 3; decide⟩)] at hv
  obtain ⟨p, rfl, rfl⟩ := hv
  refine VO.ent (L' := [repH p (newR (cF c) 2 false)]) (Imp.pick 0 rfl Imp.nil).ent ?_
  (repeat (first | refine VC.seq ?_ | refine VC.region ?_ | refine VC.block ?_ | refine VC.label ?_ | refine VC.scope ?_ | refine VO.go (VO.nil ?_) | refine VO.go (VO.ld 0 rfl rfl rfl rfl ?_)))
  refine VO.go (VO.yes 35 false rfl rfl ?_)
  (repeat (first | refine VC.seq ?_ | refine VC.region ?_ | refine VC.block ?_ | refine VC.label ?_ | refine VC.scope ?_ | refine VO.go (VO.nil ?_) | refine VO.go (VO.ld 0 rfl rfl rfl rfl ?_) | refine VO.go (VO.offU rfl rfl rfl ?_)))
  refine VO.go (VO.callV' (fun Fr w hF hs hS => whole_spec Fr w (hS.at_ 0 rfl)) rfl ?_)
  (repeat (first | refine VC.seq ?_ | refine VC.region ?_ | refine VC.block ?_ | refine VC.label ?_ | refine VC.scope ?_ | refine VO.go (VO.nil ?_) | refine VO.go (VO.ld 0 rfl rfl rfl rfl ?_) | refine VO.go (VO.offU rfl rfl rfl ?_)))
  refine VO.go (VO.yes 39 false rfl hbl.1 ?_)
  (repeat (first | refine VC.seq ?_ | refine VC.region ?_ | refine VC.block ?_ | refine VC.label ?_ | refine VC.scope ?_ | refine VO.go (VO.nil ?_) | refine VO.go (VO.ld 0 rfl rfl rfl rfl ?_) | refine VO.go (VO.offU rfl rfl rfl ?_)))
  refine VO.go (VO.callV' (fun Fr w hF hs hS => rsince_spec Fr w (hS.at_ 0 rfl)) rfl ?_)
  (repeat (first | refine VC.seq ?_ | refine VC.region ?_ | refine VC.block ?_ | refine VC.label ?_ | refine VC.scope ?_ | refine VO.go (VO.nil ?_) | refine VO.go (VO.ld 0 rfl rfl rfl rfl ?_) | refine VO.go (VO.offU rfl rfl rfl ?_)))
  refine VC.condNE (i := (newR (cF c) 2 false).since) (j := 0) rfl (fun h => absurd hbl.2 h) (fun _ => VC.skip ?_)
  (repeat (first | refine VC.seq ?_ | refine VC.region ?_ | refine VC.block ?_ | refine VC.label ?_ | refine VC.scope ?_ | refine VO.go (VO.nil ?_) | refine VO.go (VO.ld 0 rfl rfl rfl rfl ?_)))
  refine VO.go (VO.light (light_build (pv := [(0, .int .i64 0), (1, .int .i64 1)]) (memC (0, 1)) rfl rfl rfl rfl rfl) ?_)
  refine VO.go (VO.light (light_build (pv := [(0, .int .i64 1), (1, .int .i64 1)]) (memC (1, 1)) rfl rfl rfl rfl rfl) ?_)
  refine VO.go (VO.light (light_build (pv := [(0, .int .i64 2), (1, .int .i64 2)]) (memC (2, 2)) rfl rfl rfl rfl rfl) ?_)
  refine VO.go (VO.buildSlice (n := 3) (pv := [(0, .agg (memC (0, 1)).toArray), (1, .agg (memC (1, 1)).toArray), (2, .agg (memC (2, 2)).toArray)]) (flat memC chF.ms) rfl rfl rfl rfl (by decide) (by kernel_rfl) fun nb => ?_)
  refine VO.go (VO.light (light_build (pv := [(0, .int .i64 2), (1, .slice (some ⟨nb, 0, none⟩) 3 3), (2, .int .i64 (-1))]) (chF.cells (some ⟨nb, 0, none⟩) 3) rfl rfl rfl (by kernel_rfl) rfl) ?_)
  refine VO.go (VO.alloc rfl fun db => ?_)
  refine VO.go (VO.stA (vs := chF.cells (some ⟨nb, 0, none⟩) 3) (cs' := chF.cells (some ⟨nb, 0, none⟩) 3) 0 rfl rfl rfl rfl (Nat.le_refl _) rfl rfl rfl ?_)
  (repeat (first | refine VC.seq ?_ | refine VC.region ?_ | refine VC.block ?_ | refine VC.label ?_ | refine VC.scope ?_ | refine VO.go (VO.nil ?_) | refine VO.go (VO.ld 0 rfl rfl rfl rfl ?_)))
  refine VO.go (VO.ldA 0 (chF.cells (some ⟨nb, 0, none⟩) 3) rfl rfl rfl rfl ?_)
  refine VO.go (VO.light (light_build (pv := [(0, .int .i64 8), (11, .agg (chF.cells (some ⟨nb, 0, none⟩) 3).toArray)]) (fgC cfgF (some ⟨nb, 0, none⟩, 3, 3)) rfl rfl rfl (by kernel_rfl) rfl) ?_)
  refine VO.ent (L' := [repH p (newR (cF c) 2 false), pt nb (flat memC chF.ms) memT]) (Imp.pick 2 rfl (Imp.pick 1 rfl Imp.nil)).ent ?_
  refine VO.go (VO.call (Lc := [repH p (newR (cF c) 2 false)]) (fun Fr w _ _ h2 => take_spec Fr w (newR_fit (cF_fit c) 2 false) (by rw [new_is]; exact (by decide : (0 : Int) < 100000000)) 16 cfgF (ma := some ⟨nb, 0, none⟩) (mc := 3) (ms := chF.ms) (RwIn.blk (h2.blk 0 rfl) (fun i x hx => by
    rw [Nat.zero_add, ← List.append_nil (flat memC chF.ms)]
    exact flat_row memC_len hx [])) (by decide) (fun h => by cases h) 0 (by decide) (by decide)) rfl rfl ?_)
  rintro _ _ ⟨a1, c1, rfl, rfl⟩
  have F1 := fr_enter c
  generalize (takeR (newR (cF c) 2 false) 16 cfgF chF.ms 0).1 = R1 at F1
  refine VO.ent (L' := [repH p R1]) (Imp.pick 0 rfl Imp.nil).ent ?_
  (repeat (first | refine VC.seq ?_ | refine VC.region ?_ | refine VC.block ?_ | refine VC.label ?_ | refine VC.scope ?_ | refine VO.go (VO.nil ?_) | refine VO.go (VO.ld 0 rfl rfl rfl rfl ?_)))
  refine VO.go (VO.light (light_build (pv := [(0, .int .i64 1), (1, .string ⟨#[107]⟩)]) getF.op.cells rfl rfl rfl rfl rfl) ?_)
  refine VO.go (VO.light (light_build (pv := [(0, .int .i64 1), (1, .int .i64 2), (2, .int .i64 0), (3, .int .i64 1), (4, .int .i64 1), (6, .int .i64 99), (7, .agg getF.op.cells.toArray)]) (fgC getF mem0) rfl rfl rfl (by kernel_rfl) rfl) ?_)
  refine VO.go (VO.alloc rfl fun gb => ?_)
  refine VO.go (VO.stA (vs := fgC getF mem0) (cs' := fgC getF mem0) 0 rfl rfl rfl rfl (Nat.le_refl _) rfl rfl rfl ?_)
  (repeat (first | refine VC.seq ?_ | refine VC.region ?_ | refine VC.block ?_ | refine VC.label ?_ | refine VC.scope ?_ | refine VO.go (VO.nil ?_) | refine VO.go (VO.ld 0 rfl rfl rfl rfl ?_)))
  refine VO.go (VO.light (light_conv base rfl rfl rfl rfl rfl (i64_small hb0.1 hb0.2)) ?_)
  refine VO.go (VO.light (light_rem rfl rfl hb0.1 (by omega)) ?_)
  (repeat (first | refine VC.seq ?_ | refine VC.region ?_ | refine VC.block ?_ | refine VC.label ?_ | refine VC.scope ?_ | refine VO.go (VO.nil ?_) | refine VO.go (VO.ld 0 rfl rfl rfl rfl ?_)))
  refine VO.go (VO.light (light_conv many rfl rfl rfl rfl rfl (i64_small hm0.1 hm0.2)) ?_)
  refine VO.go (VO.light (light_rem rfl rfl hm0.1 (by omega)) ?_)
  obtain ⟨bN, hbN, hbl2⟩ : ∃ n : Nat, base % 20 = n ∧ n < 20 := ⟨(base % 20).toNat, by omega, by omega⟩
  obtain ⟨mN, hmN, hml2⟩ : ∃ n : Nat, many % 20 = n ∧ n < 20 := ⟨(many % 20).toNat, by omega, by omega⟩
  rw [hbN, hmN]
  (repeat (first | refine VC.seq ?_ | refine VC.region ?_ | refine VC.block ?_ | refine VC.label ?_ | refine VC.scope ?_ | refine VO.go (VO.nil ?_) | refine VO.go (VO.ld 0 rfl rfl rfl rfl ?_)))
  refine VO.ent (L' := [repH p R1, pt gb (fgC getF mem0) frT]) (Imp.pick 1 rfl (Imp.pick 0 rfl Imp.nil)).ent ?_
  refine VO.go (VO.callV' (fun Fr w hF hs hS => rsince_spec Fr w (hS.at_ 0 rfl)) rfl ?_)
  (repeat (first | refine VC.seq ?_ | refine VC.region ?_ | refine VC.block ?_ | refine VC.label ?_ | refine VC.scope ?_ | refine VO.go (VO.nil ?_) | refine VO.go (VO.ld 0 rfl rfl rfl rfl ?_)))
  refine VC.condNE (i := R1.since) (j := 2) rfl (fun h => absurd F1.since h) (fun _ => VC.skip ?_)
  refine VC.seq ?_
  refine VC.meetS (σ := RepM) (fun _ => [(7, .pointer (some ⟨p, 0, none⟩)), (10, .pointer (some ⟨gb, 0, none⟩)), (11, .int .i64 bN), (12, .int .i64 mN)]) (fun R => [repH p R, pt gb (fgC getF mem0) frT]) (fun R => FrI (-1) mN R) ?_ ?_
  · (repeat (first | refine VC.seq ?_ | refine VC.region ?_ | refine VC.block ?_ | refine VC.label ?_ | refine VC.scope ?_ | refine VO.go (VO.nil ?_) | refine VO.go (VO.ld 0 rfl rfl rfl rfl ?_)))
    refine VC.loop (σ := Nat × RepM) (fun y => [(7, .pointer (some ⟨p, 0, none⟩)), (10, .pointer (some ⟨gb, 0, none⟩)), (11, .int .i64 bN), (12, .int .i64 mN), (13, .int .i64 y.1)]) (fun y => [repH p y.2, pt gb (fgC getF mem0) frT])
      (fun y => y.1 ≤ mN + 1 ∧ (y.1 ≤ mN → FrI (-1) y.1 y.2) ∧ (y.1 = mN + 1 → FrI (-1) mN y.2)) (fun y => mN + 1 - y.1) (0, R1) ⟨by dsimp only; omega, fun _ => F1, fun h => by dsimp only at h; omega⟩ (Sub.cons rfl (Sub.cons rfl (Sub.cons rfl (Sub.cons rfl (Sub.cons rfl (Sub.nil _)))))) Ent.refl ?_
    rintro ⟨i, R⟩ ⟨hi, hI, hI2⟩
    dsimp only at hi hI hI2 ⊢
    (repeat (first | refine VC.seq ?_ | refine VC.region ?_ | refine VC.block ?_ | refine VC.label ?_ | refine VC.scope ?_ | refine VO.go (VO.nil ?_) | refine VO.go (VO.ld 0 rfl rfl rfl rfl ?_)))
    refine VC.condP (p := (i : Int) ≤ mN) rfl (fun h1 => VC.skip ?_) (fun h1 => VC.exit ?_)
    rotate_left
    · exact ⟨R, hI2 (by omega), Sub.cons rfl (Sub.cons rfl (Sub.cons rfl (Sub.cons rfl (Sub.nil _)))), Ent.refl⟩
    have hi1 : i ≤ mN := by omega
    have F := hI hi1
    have hnw : R.whole = false := by rw [F.whole]; rfl
    have hg := (fr_get F).1 hnw
    (repeat (first | refine VC.seq ?_ | refine VC.region ?_ | refine VC.block ?_ | refine VC.label ?_ | refine VC.scope ?_ | refine VO.go (VO.nil ?_) | refine VO.go (VO.ld 0 rfl rfl rfl rfl ?_)))
    refine VO.go (VO.ldA 1 (fgC getF mem0) rfl rfl rfl rfl ?_)
    refine VO.go (VO.call (Lc := [repH p R]) (fun Fr w _ _ _ => takeI F Fr w 32 getF 0 (by decide) (by decide)) rfl rfl ?_)
    rintro _ _ ⟨a2, c2, rfl, rfl⟩
    rw [hg]
    (repeat (first | refine VC.seq ?_ | refine VC.region ?_ | refine VC.block ?_ | refine VC.label ?_ | refine VC.scope ?_ | refine VO.go (VO.nil ?_) | refine VO.go (VO.ld 0 rfl rfl rfl rfl ?_)))
    refine VO.opn 1 rfl (HOpn.one sndT a2 c2 (32, refuseF 2 getF 8)) ?_
    rintro ⟨sb, sr⟩ rfl
    show VO _ _ _ _ _ [pt sb (sndC (32, refuseF 2 getF 8) ++ sr) sndT, repH p R, pt gb (fgC getF mem0) frT] _
    refine VO.go (VO.callV' (fun Fr w hF hs hS => whole_spec Fr w (hS.at_ 1 rfl)) rfl ?_)
    (repeat (first | refine VC.seq ?_ | refine VC.region ?_ | refine VC.block ?_ | refine VC.label ?_ | refine VC.scope ?_ | refine VO.go (VO.nil ?_) | refine VO.go (VO.ld 0 rfl rfl rfl rfl ?_)))
    refine VO.go (VO.yes 74 false rfl hnw ?_)
    (repeat (first | refine VC.seq ?_ | refine VC.region ?_ | refine VC.block ?_ | refine VC.label ?_ | refine VC.scope ?_ | refine VO.go (VO.nil ?_) | refine VO.go (VO.ld 0 rfl rfl rfl rfl ?_) | refine VO.go (VO.offU rfl rfl rfl ?_)))
    refine VO.go (VO.call (Lc := []) (fun Fr w hF hs hS => log_spec Fr w F.fit.ok (hS.at_ 1 rfl)) rfl rfl ?_)
    rintro _ _ ⟨q, rfl, rfl⟩
    (repeat (first | refine VC.seq ?_ | refine VC.region ?_ | refine VC.block ?_ | refine VC.label ?_ | refine VC.scope ?_ | refine VO.go (VO.nil ?_) | refine VO.go (VO.ld 0 rfl rfl rfl rfl ?_) | refine VO.go (VO.offU rfl rfl rfl ?_)))
    refine VO.go (VO.callV' (fun Fr w hF hs hS => Lg.len_spec Fr w (hS.at_ 0 rfl)) rfl ?_)
    rw [F.log, entsF_len]
    (repeat (first | refine VC.seq ?_ | refine VC.region ?_ | refine VC.block ?_ | refine VC.label ?_ | refine VC.scope ?_ | refine VO.go (VO.nil ?_) | refine VO.go (VO.ld 0 rfl rfl rfl rfl ?_) | refine VO.go (VO.offU rfl rfl rfl ?_)))
    refine VO.go (VO.yes 81 false rfl (by simp) ?_)
    (repeat (first | refine VC.seq ?_ | refine VC.region ?_ | refine VC.block ?_ | refine VC.label ?_ | refine VC.scope ?_ | refine VO.go (VO.nil ?_) | refine VO.go (VO.ld 0 rfl rfl rfl rfl ?_) | refine VO.go (VO.offU rfl rfl rfl ?_)))
    refine VO.go (VO.yes 86 false rfl rfl ?_)
    (repeat (first | refine VC.seq ?_ | refine VC.region ?_ | refine VC.block ?_ | refine VC.label ?_ | refine VC.scope ?_ | refine VO.go (VO.nil ?_) | refine VO.go (VO.ld 0 rfl rfl rfl rfl ?_) | refine VO.go (VO.offU rfl rfl rfl ?_)))
    refine VO.go (VO.light (light_idx 0 rfl rfl rfl rfl rfl (by omega) (by show 0 < 1; omega)) ?_)
    (repeat (first | refine VC.seq ?_ | refine VC.region ?_ | refine VC.block ?_ | refine VC.label ?_ | refine VC.scope ?_ | refine VO.go (VO.nil ?_) | refine VO.go (VO.ld 0 rfl rfl rfl rfl ?_) | refine VO.go (VO.ld 1 rfl rfl rfl rfl ?_) | refine VO.go (VO.offU rfl rfl rfl ?_)))
    refine VC.condF rfl (VC.skip ?_)
    refine VC.ent (L' := [repH p R, pt gb (fgC getF mem0) frT]) (Imp.pick 2 rfl (Imp.pick 2 rfl Imp.nil)).ent ?_
    (repeat (first | refine VC.seq ?_ | refine VC.region ?_ | refine VC.block ?_ | refine VC.label ?_ | refine VC.scope ?_ | refine VO.go (VO.nil ?_) | refine VO.go (VO.ld 0 rfl rfl rfl rfl ?_)))
    refine VC.condP (p := (i : Int) < mN) rfl (fun h2 => ?_) (fun h2 => VC.skip ?_)
    rotate_left
    · (repeat (first | refine VC.seq ?_ | refine VC.region ?_ | refine VC.block ?_ | refine VC.label ?_ | refine VC.scope ?_ | refine VO.go (VO.nil ?_) | refine VO.go (VO.ld 0 rfl rfl rfl rfl ?_)))
      refine VO.go (VO.add rfl rfl (by omega) (by omega) ?_)
      (repeat (first | refine VC.seq ?_ | refine VC.region ?_ | refine VC.block ?_ | refine VC.label ?_ | refine VC.scope ?_ | refine VO.go (VO.nil ?_) | refine VO.go (VO.ld 0 rfl rfl rfl rfl ?_)))
      refine ⟨(i + 1, R), ⟨by dsimp only; omega, fun h => by dsimp only at h; omega, fun h => (show i = mN by dsimp only at h; omega) ▸ F⟩, by dsimp only; omega, Sub.cons rfl (Sub.cons rfl (Sub.cons rfl (Sub.cons rfl (Sub.cons rfl (Sub.nil _))))), Ent.refl⟩
    (repeat (first | refine VC.seq ?_ | refine VC.region ?_ | refine VC.block ?_ | refine VC.label ?_ | refine VC.scope ?_ | refine VO.go (VO.nil ?_) | refine VO.go (VO.ld 0 rfl rfl rfl rfl ?_)))
    refine VO.go (VO.add rfl rfl (by omega) (by omega) ?_)
    (repeat (first | refine VC.seq ?_ | refine VC.region ?_ | refine VC.block ?_ | refine VC.label ?_ | refine VC.scope ?_ | refine VO.go (VO.nil ?_) | refine VO.go (VO.ld 0 rfl rfl rfl rfl ?_)))
    refine VO.go (VO.add rfl rfl (by omega) (by omega) ?_)
    refine VO.go (VO.light (light_build (pv := [(0, .int .i64 2), (1, .string ⟨#[107]⟩), (2, .string ⟨#[118]⟩)]) (entF i).op.cells rfl rfl rfl rfl rfl) ?_)
    refine VO.go (VO.light (light_build (pv := [(0, .int .i64 ((i : Int) + 1)), (1, .int .i64 0), (2, .int .i64 ((i : Int) + 1)), (3, .agg (entF i).op.cells.toArray)]) (entC (entF i)) rfl rfl rfl rfl rfl) ?_)
    refine VO.go (VO.alloc rfl fun eb => ?_)
    refine VO.go (VO.stA (vs := entC (entF i)) (cs' := entC (entF i)) 0 rfl rfl rfl rfl (Nat.le_refl _) rfl rfl rfl ?_)
    (repeat (first | refine VC.seq ?_ | refine VC.region ?_ | refine VC.block ?_ | refine VC.label ?_ | refine VC.scope ?_ | refine VO.go (VO.nil ?_) | refine VO.go (VO.ld 0 rfl rfl rfl rfl ?_)))
    refine VO.go (VO.ldA 0 (entC (entF i)) rfl rfl rfl rfl ?_)
    refine VO.go (VO.light (light_build (pv := [(0, .int .i64 4), (1, .int .i64 2), (10, .agg (entC (entF i)).toArray)]) (fgC (fwdF i) mem0) rfl rfl rfl (by kernel_rfl) rfl) ?_)
    refine VO.ent (L' := [repH p R, pt gb (fgC getF mem0) frT]) (Imp.pick 1 rfl (Imp.pick 1 rfl Imp.nil)).ent ?_
    refine VO.go (VO.call (Lc := [repH p R]) (fun Fr w _ _ _ => takeI F Fr w 1 (fwdF i) 0 (by show (-9223372036854775808 : Int) ≤ (i : Int) + 1; omega) (by show (i : Int) + 1 ≤ 9223372036854775807; omega)) rfl rfl ?_)
    rintro _ _ ⟨a3, c3, rfl, rfl⟩
    have F2 := fr_next F (by omega)
    generalize (takeR R 1 (fwdF i) [] 0).1 = R2 at F2
    refine VO.ent (L' := [repH p R2, pt gb (fgC getF mem0) frT]) (Imp.pick 0 rfl (Imp.pick 1 rfl Imp.nil)).ent ?_
    (repeat (first | refine VC.seq ?_ | refine VC.region ?_ | refine VC.block ?_ | refine VC.label ?_ | refine VC.scope ?_ | refine VO.go (VO.nil ?_) | refine VO.go (VO.ld 0 rfl rfl rfl rfl ?_)))
    refine VO.go (VO.add rfl rfl (by omega) (by omega) ?_)
    (repeat (first | refine VC.seq ?_ | refine VC.region ?_ | refine VC.block ?_ | refine VC.label ?_ | refine VC.scope ?_ | refine VO.go (VO.nil ?_) | refine VO.go (VO.ld 0 rfl rfl rfl rfl ?_)))
    refine ⟨(i + 1, R2), ⟨by dsimp only; omega, fun h => F2, fun h => by dsimp only at h; omega⟩, by dsimp only; omega, Sub.cons rfl (Sub.cons rfl (Sub.cons rfl (Sub.cons rfl (Sub.cons rfl (Sub.nil _))))), Ent.refl⟩
  intro R F
  (repeat (first | refine VC.seq ?_ | refine VC.region ?_ | refine VC.block ?_ | refine VC.label ?_ | refine VC.scope ?_ | refine VO.go (VO.nil ?_) | refine VO.go (VO.ld 0 rfl rfl rfl rfl ?_)))
  refine VO.go (VO.light (light_build (pv := [(0, .int .i64 6), (1, .int .i64 2), (12, .int .i64 bN)]) (fgC (basF bN) mem0) rfl rfl rfl (by kernel_rfl) rfl) ?_)
  refine VO.go (VO.call (Lc := [repH p R]) (fun Fr w _ _ _ => takeI F Fr w 1 (basF bN) 0 (by show (-9223372036854775808 : Int) ≤ 0; decide) (by show (0 : Int) ≤ 9223372036854775807; decide)) rfl rfl ?_)
  rintro _ _ ⟨a2, c2, rfl, rfl⟩
  have F2 := fr_base F (b := bN) (by omega)
  clear F
  generalize (takeR R 1 (basF bN) [] 0).1 = R2 at F2
  refine VO.ent (L' := [repH p R2, pt gb (fgC getF mem0) frT]) (Imp.pick 0 rfl (Imp.pick 1 rfl Imp.nil)).ent ?_
  refine VO.go (VO.nil ?_)
  refine VC.seq ?_
  refine VC.meetS (σ := RepM × Nat) (fun _ => [(7, .pointer (some ⟨p, 0, none⟩)), (10, .pointer (some ⟨gb, 0, none⟩))]) (fun y => [repH p y.1, pt gb (fgC getF mem0) frT]) (fun y => FrI bN y.2 y.1 ∧ bN ≤ y.2) ?_ ?_
  · (repeat (first | refine VC.seq ?_ | refine VC.region ?_ | refine VC.block ?_ | refine VC.label ?_ | refine VC.scope ?_ | refine VO.go (VO.nil ?_) | refine VO.go (VO.ld 0 rfl rfl rfl rfl ?_)))
    refine VC.loop (σ := Nat × RepM) (fun y => [(7, .pointer (some ⟨p, 0, none⟩)), (10, .pointer (some ⟨gb, 0, none⟩)), (11, .int .i64 bN), (16, .int .i64 y.1)]) (fun y => [repH p y.2, pt gb (fgC getF mem0) frT])
      (fun y => y.1 ≤ mN + bN ∧ FrI bN y.1 y.2) (fun y => mN + bN + 1 - y.1) (mN, R2) ⟨by dsimp only; omega, F2⟩ (Sub.cons rfl (Sub.cons rfl (Sub.cons rfl (Sub.cons rfl (Sub.nil _))))) Ent.refl ?_
    rintro ⟨i, R⟩ ⟨hi, F⟩
    dsimp only at hi F ⊢
    (repeat (first | refine VC.seq ?_ | refine VC.region ?_ | refine VC.block ?_ | refine VC.label ?_ | refine VC.scope ?_ | refine VO.go (VO.nil ?_) | refine VO.go (VO.ld 0 rfl rfl rfl rfl ?_)))
    refine VC.condP (p := (i : Int) < bN) rfl (fun h1 => VC.skip ?_) (fun h1 => VC.exit ?_)
    rotate_left
    · exact ⟨(R, i), ⟨F, by dsimp only; omega⟩, Sub.cons rfl (Sub.cons rfl (Sub.nil _)), Ent.refl⟩
    have hnw : R.whole = false := by rw [F.whole, decide_eq_false (show ¬ (bN : Int) ≤ i by omega), Bool.and_false]
    (repeat (first | refine VC.seq ?_ | refine VC.region ?_ | refine VC.block ?_ | refine VC.label ?_ | refine VC.scope ?_ | refine VO.go (VO.nil ?_) | refine VO.go (VO.ld 0 rfl rfl rfl rfl ?_)))
    refine VO.go (VO.callV' (fun Fr w hF hs hS => whole_spec Fr w (hS.at_ 0 rfl)) rfl ?_)
    (repeat (first | refine VC.seq ?_ | refine VC.region ?_ | refine VC.block ?_ | refine VC.label ?_ | refine VC.scope ?_ | refine VO.go (VO.nil ?_) | refine VO.go (VO.ld 0 rfl rfl rfl rfl ?_)))
    refine VC.condF (by rw [← hnw]; rfl) (VC.skip ?_)
    (repeat (first | refine VC.seq ?_ | refine VC.region ?_ | refine VC.block ?_ | refine VC.label ?_ | refine VC.scope ?_ | refine VO.go (VO.nil ?_) | refine VO.go (VO.ld 0 rfl rfl rfl rfl ?_)))
    refine VO.go (VO.add rfl rfl (by omega) (by omega) ?_)
    (repeat (first | refine VC.seq ?_ | refine VC.region ?_ | refine VC.block ?_ | refine VC.label ?_ | refine VC.scope ?_ | refine VO.go (VO.nil ?_) | refine VO.go (VO.ld 0 rfl rfl rfl rfl ?_)))
    refine VO.go (VO.add rfl rfl (by omega) (by omega) ?_)
    refine VO.go (VO.light (light_build (pv := [(0, .int .i64 2), (1, .string ⟨#[107]⟩), (2, .string ⟨#[118]⟩)]) (entF i).op.cells rfl rfl rfl rfl rfl) ?_)
    refine VO.go (VO.light (light_build (pv := [(0, .int .i64 ((i : Int) + 1)), (1, .int .i64 0), (2, .int .i64 ((i : Int) + 1)), (3, .agg (entF i).op.cells.toArray)]) (entC (entF i)) rfl rfl rfl rfl rfl) ?_)
    refine VO.go (VO.alloc rfl fun eb => ?_)
    refine VO.go (VO.stA (vs := entC (entF i)) (cs' := entC (entF i)) 0 rfl rfl rfl rfl (Nat.le_refl _) rfl rfl rfl ?_)
    (repeat (first | refine VC.seq ?_ | refine VC.region ?_ | refine VC.block ?_ | refine VC.label ?_ | refine VC.scope ?_ | refine VO.go (VO.nil ?_) | refine VO.go (VO.ld 0 rfl rfl rfl rfl ?_)))
    refine VO.go (VO.ldA 0 (entC (entF i)) rfl rfl rfl rfl ?_)
    refine VO.go (VO.light (light_build (pv := [(0, .int .i64 4), (1, .int .i64 2), (10, .agg (entC (entF i)).toArray)]) (fgC (fwdF i) mem0) rfl rfl rfl (by kernel_rfl) rfl) ?_)
    refine VO.ent (L' := [repH p R, pt gb (fgC getF mem0) frT]) (Imp.pick 1 rfl (Imp.pick 1 rfl Imp.nil)).ent ?_
    refine VO.go (VO.call (Lc := [repH p R]) (fun Fr w _ _ _ => takeI F Fr w 1 (fwdF i) 0 (by show (-9223372036854775808 : Int) ≤ (i : Int) + 1; omega) (by show (i : Int) + 1 ≤ 9223372036854775807; omega)) rfl rfl ?_)
    rintro _ _ ⟨a3, c3, rfl, rfl⟩
    have F2 := fr_next F (by omega)
    generalize (takeR R 1 (fwdF i) [] 0).1 = R2 at F2
    refine VO.ent (L' := [repH p R2, pt gb (fgC getF mem0) frT]) (Imp.pick 0 rfl (Imp.pick 1 rfl Imp.nil)).ent ?_
    (repeat (first | refine VC.seq ?_ | refine VC.region ?_ | refine VC.block ?_ | refine VC.label ?_ | refine VC.scope ?_ | refine VO.go (VO.nil ?_) | refine VO.go (VO.ld 0 rfl rfl rfl rfl ?_)))
    refine VO.go (VO.add rfl rfl (by omega) (by omega) ?_)
    (repeat (first | refine VC.seq ?_ | refine VC.region ?_ | refine VC.block ?_ | refine VC.label ?_ | refine VC.scope ?_ | refine VO.go (VO.nil ?_) | refine VO.go (VO.ld 0 rfl rfl rfl rfl ?_)))
    refine ⟨(i + 1, R2), ⟨by dsimp only; omega, F2⟩, by dsimp only; omega, Sub.cons rfl (Sub.cons rfl (Sub.cons rfl (Sub.cons rfl (Sub.nil _)))), Ent.refl⟩
  rintro ⟨R, i⟩ ⟨F, hbi⟩
  dsimp only at F hbi ⊢
  have hw : R.whole = true := by rw [F.whole, decide_eq_true (show (0 : Int) ≤ bN by omega), decide_eq_true (show (bN : Int) ≤ i by omega)]; rfl
  obtain ⟨hg1, hg2⟩ := (fr_get F).2 hw
  (repeat (first | refine VC.seq ?_ | refine VC.region ?_ | refine VC.block ?_ | refine VC.label ?_ | refine VC.scope ?_ | refine VO.go (VO.nil ?_) | refine VO.go (VO.ld 0 rfl rfl rfl rfl ?_)))
  refine VO.go (VO.ldA 1 (fgC getF mem0) rfl rfl rfl rfl ?_)
  refine VO.go (VO.call (Lc := [repH p R]) (fun Fr w _ _ _ => takeI F Fr w 32 getF 0 (by decide) (by decide)) rfl rfl ?_)
  rintro _ _ ⟨a2', c2', rfl, rfl⟩
  rw [hg1]
  generalize (takeR R 32 getF [] 0).1 = R3 at hg2 ⊢
  (repeat (first | refine VC.seq ?_ | refine VC.region ?_ | refine VC.block ?_ | refine VC.label ?_ | refine VC.scope ?_ | refine VO.go (VO.nil ?_) | refine VO.go (VO.ld 0 rfl rfl rfl rfl ?_)))
  refine VO.opn 1 rfl (HOpn.one sndT a2' c2' (16, confirmF 2 1)) ?_
  rintro ⟨sb, sr⟩ rfl
  show VO _ _ _ _ _ [pt sb (sndC (16, confirmF 2 1) ++ sr) sndT, repH p R3, pt gb (fgC getF mem0) frT] _
  refine VO.go (VO.callV' (fun Fr w hF hs hS => whole_spec Fr w (hS.at_ 1 rfl)) rfl ?_)
  (repeat (first | refine VC.seq ?_ | refine VC.region ?_ | refine VC.block ?_ | refine VC.label ?_ | refine VC.scope ?_ | refine VO.go (VO.nil ?_) | refine VO.go (VO.ld 0 rfl rfl rfl rfl ?_)))
  refine VO.go (VO.yes 134 true rfl hg2 ?_)
  (repeat (first | refine VC.seq ?_ | refine VC.region ?_ | refine VC.block ?_ | refine VC.label ?_ | refine VC.scope ?_ | refine VO.go (VO.nil ?_) | refine VO.go (VO.ld 0 rfl rfl rfl rfl ?_) | refine VO.go (VO.offU rfl rfl rfl ?_)))
  refine VO.go (VO.yes 139 true rfl rfl ?_)
  (repeat (first | refine VC.seq ?_ | refine VC.region ?_ | refine VC.block ?_ | refine VC.label ?_ | refine VC.scope ?_ | refine VO.go (VO.nil ?_) | refine VO.go (VO.ld 0 rfl rfl rfl rfl ?_) | refine VO.go (VO.offU rfl rfl rfl ?_)))
  refine VO.go (VO.light (light_idx 0 rfl rfl rfl rfl rfl (by omega) (by show 0 < 1; omega)) ?_)
  (repeat (first | refine VC.seq ?_ | refine VC.region ?_ | refine VC.block ?_ | refine VC.label ?_ | refine VC.scope ?_ | refine VO.go (VO.nil ?_) | refine VO.go (VO.ld 0 rfl rfl rfl rfl ?_) | refine VO.go (VO.ld 1 rfl rfl rfl rfl ?_) | refine VO.go (VO.offU rfl rfl rfl ?_)))
  refine VO.go (VO.yes 147 true rfl rfl ?_)
  (repeat (first | refine VC.seq ?_ | refine VC.region ?_ | refine VC.block ?_ | refine VC.label ?_ | refine VC.scope ?_ | refine VO.go (VO.nil ?_) | refine VO.go (VO.ld 0 rfl rfl rfl rfl ?_) | refine VO.go (VO.offU rfl rfl rfl ?_)))
  refine VO.go (VO.callV (fun Fr w => led_spec Fr w) rfl ?_)
  (repeat (first | refine VC.seq ?_ | refine VC.region ?_ | refine VC.block ?_ | refine VC.label ?_ | refine VC.scope ?_ | refine VO.go (VO.nil ?_) | refine VO.go (VO.ld 0 rfl rfl rfl rfl ?_)))
  exact VC.ret (Ret.bool 6 rfl rfl rfl Imp.nil.ent ⟨rfl, rfl⟩)
end Go.Proofs.YtbbnmgakmcppdaaGreat.Rep
namespace Go.Proofs.YtbbnmgakmcppdaaGreat.Rep
open Go Go.Proofs.YtbbnmgakmcppdaaGreat.Vg Go.ChangeShapes Go.WideShapes Go.ChangeAt Go.RowKit Go.Proofs.YtbbnmgakmcppdaaGreat.Sched Go.Proofs.YtbbnmgakmcppdaaGreat.Conf Go.Proofs.YtbbnmgakmcppdaaGreat.Adm

set_option maxRecDepth 100000 in
theorem open_u8 {H : Type} {enc : TypeId × Value → H} {w : World} {base base0 : Nat} {spare : Nat → Bool} {held : Bool} {v : Value} {d : DataW H} {ps : List MemPlace} (hval : Value.okWide Tryz.prog w .any base0 5 v) (h : DataW.Trod enc Tryz.prog w base spare held 5 v d ps) :
    ∃ n, v = .int .u8 n ∧ 0 ≤ n ∧ n ≤ 255 := by
  obtain ⟨n, rfl⟩ := okWide_int Tryz.underlying5 hval
  obtain ⟨fuel, hf⟩ := h
  obtain ⟨m, e, _, hw⟩ := DataW.trod_int Tryz.underlying5 hf
  have e2 : Value.int .u8 n = .int .u8 m := (List.cons.inj e).1
  cases e2
  exact ⟨n, rfl, wf_byte hw⟩
theorem own_fresh : ownKnob Tryz.prog.godebug = none := by kernel_rfl
theorem laidOut_fresh : laidOutB Tryz.prog = true := by kernel_rfl
set_option maxRecDepth 100000 in
theorem fresh_lifted (os : Os) (started : os.Started) (H : Type) (enc : TypeId × Value → H) :
    ReturnsInHanded {} Tryz.checked os 3 .any (Rows.replicaFreshSpec.pre6 enc Tryz.prog Tryz.f3 Rows.replicaFreshRow.domain false) (Rows.replicaFreshSpec.post enc Tryz.prog Tryz.f3 false true false false) := by
  refine law_returns (C := Tryz.checked) own_fresh started (by kernel_rfl) Tryz.func3
    (ChangeSpec.witness6 (enc := enc) (C := Tryz.checked) false ⟨#[], #[.agg #[.int .i64 0, .int .i64 0, .int .i64 0, .slice none 0 0, .int .i64 0, .int .i64 0, .int .i64 0, .int .i64 0, .int .i64 0, .int .i64 0, .int .i64 0, .int .i64 0], .int .u8 0, .int .u8 0], []⟩ 8 (by kernel_rfl) (by kernel_rfl) (by kernel_rfl) (by kernel_rfl))
    laidOut_fresh (by rw [Tryz.params3]; simp; exact ⟨⟨by kernel_rfl, of_decide_eq_true (by kernel_rfl)⟩, by kernel_rfl, of_decide_eq_true (by kernel_rfl)⟩) rfl rfl Tryz.underlying4
    (fun ds h => by
      rw [Tryz.params3] at h
      match ds, h with
      | [d1, d2, d3], _ => rfl) ?_
  intro W base args ds ps hval hA _ _
  rw [Tryz.params3] at hA hval
  obtain ⟨v0, vs0, d0, ds0, p0, q0, hargs, rfl, rfl, h0, r0⟩ := trodAll_cons hA
  obtain ⟨v1, vs1, d1, ds1, p1, q1, rfl, rfl, rfl, h1, r1⟩ := trodAll_cons r0
  obtain ⟨v2, vs2, d2, ds2, p2, q2, rfl, rfl, rfl, h2, r2⟩ := trodAll_cons r1
  obtain ⟨rfl, rfl, rfl⟩ := trodAll_nil r2
  obtain rfl : args = #[v0, v1, v2] := by cases args; simp_all
  obtain ⟨c, ca, cc, rfl, hcc, hq⟩ := open_conf (hval 0 24 v0 rfl rfl) h0
  obtain ⟨a1, rfl, hb1⟩ := open_u8 (hval 1 5 v1 rfl rfl) h1
  obtain ⟨a2, rfl, hb2⟩ := open_u8 (hval 2 5 v2 rfl rfl) h2
  have T := fresh_spec (fun b => b < W.heap.size) W c ca cc hq a1 a2 hb1 hb2
  exact ⟨T.callable, fun hl hs => Calls.mono (T.calls hl hs) fun e W' ⟨v, L', h1, h2, h3, h4⟩ => ⟨v, L', h1, h2.1, h3, h4⟩⟩

theorem fresh_holds : Rows.ReplicaFreshSaid :=
  OpenClaim.holds_of_wide 3 Tryz.f3 rfl rfl rfl rfl rfl rfl rfl ⟨rfl, rfl, rfl, rfl, rfl⟩ rfl rfl rfl rfl rfl (by kernel_rfl) Tryz.func3 (by kernel_rfl)
    (of_decide_eq_true (by kernel_rfl)) (by unfold Func.isWrapper; first | (rw [if_pos (by decide +kernel)]; kernel_rfl) | (rw [if_neg (by decide +kernel)]; exact ⟨rfl, rfl⟩))
    (fun os started H enc _ => fresh_lifted os started H enc)
#print axioms fresh_holds
end Go.Proofs.YtbbnmgakmcppdaaGreat.Rep
