/- Nodes: one that comes into a chain has nothing, and becomes whole. Plain. No condition. -/
import Derived.Test.YtbbnmgakmcppdaaGreatRepB
import Derived.Test.YtbbnmgakmcppdaaGreatAArg
namespace Go.Proofs.YtbbnmgakmcppdaaGreat.Rep
open Go Go.Proofs.YtbbnmgakmcppdaaGreat.Vg Go.Proofs.YtbbnmgakmcppdaaGreat.T Go.Proofs.YtbbnmgakmcppdaaGreat.Api Go.Proofs.YtbbnmgakmcppdaaGreat.Kv Go.Proofs.YtbbnmgakmcppdaaGreat.Ch Go.Proofs.YtbbnmgakmcppdaaGreat.Lg Go.Proofs.YtbbnmgakmcppdaaGreat.Rd Go.Proofs.YtbbnmgakmcppdaaGreat.Win Go.Proofs.YtbbnmgakmcppdaaGreat.Adm Go.Proofs.YtbbnmgakmcppdaaGreat.Sched Go.Proofs.YtbbnmgakmcppdaaGreat.Conf
set_option linter.unusedSimpArgs false
set_option linter.unusedVariables false

def cF (c : ConfM) : ConfM := { fitM c with nodes := 3, chain := 2 }
theorem cF_fit (c : ConfM) : cF c = fitM (cF c) := by
  have h := fit_idem c
  have e : ∀ {a b : ConfM}, a = b → a.clients = b.clients ∧ a.qs = b.qs ∧ a.queue = b.queue ∧ a.window = b.window ∧ a.reads = b.reads ∧ a.link = b.link ∧ a.patience = b.patience ∧ a.timeout = b.timeout ∧ a.budget = b.budget ∧ a.refill = b.refill := fun h => by subst h; exact ⟨rfl, rfl, rfl, rfl, rfl, rfl, rfl, rfl, rfl, rfl⟩
  obtain ⟨h1, h2, h3, h4, h5, h6, h7, h8, h9, h10⟩ := e h
  exact conf_ext (by show (3 : Int) = near 3 1 6; decide) (by show (2 : Int) = near 2 1 (near 3 1 6); decide) h1 h2 h3 h4 h5 h6 h7 h8 h9 h10
def chF : ChM := ⟨2, [(0, 1), (1, 1), (2, 2)], -1⟩
def cfgF : FrameM := { FrameM.zero with kind := 8, cepoch := 2, drain := -1 }
def getF : FrameM := { FrameM.zero with kind := 1, epoch := 2, client := 0, seq := 1, try_ := 1, deadline := 99, op := ⟨1, ⟨#[107]⟩, ⟨#[]⟩, 0⟩ }
def entF (i : Nat) : EntryM := ⟨i + 1, 0, i + 1, ⟨2, ⟨#[107]⟩, ⟨#[118]⟩, 0⟩⟩
def entsF (i : Nat) : List EntryM := (List.range i).map entF
def fwdF (i : Nat) : FrameM := { FrameM.zero with kind := 4, epoch := 2, entry := entF i }
def basF (b : Int) : FrameM := { FrameM.zero with kind := 6, epoch := 2, index := b }
theorem entsF_len (i : Nat) : (entsF i).length = i := by simp [entsF]
theorem entsF_succ (i : Nat) : entsF (i + 1) = entsF i ++ [entF i] := by simp [entsF, List.range_succ]
theorem entsF_err : ∀ i ∈ List.range 40, logErr (entsF i) (entF i) = 0 := by decide +kernel
theorem chF_is : tailOf chF = 2 ∧ prevOf chF 2 = 1 ∧ chE chF = 0 ∧ sinceOf chF 2 = (2, true) ∧ readsB getF.op = true := by decide +kernel
section
variable {R : RepM} {from_ : Int} {f : FrameM} {ms : List MemM} {now : Int}
theorem take_call (h : f.kind = 1) (h0 : 0 ≤ f.client) (h1 : f.client < R.clients) : takeR R from_ f ms now = if readsB f.op = true then readR R f now else updateR R f now := by
  unfold takeR; rw [if_pos h, if_neg (by omega), if_neg (by omega)]
theorem take_fwd (h : f.kind = 4) : takeR R from_ f ms now = if R.knownB f = true ∧ isNodeB from_ R.prevM = true then forwardR R f.entry else (R, []) := by
  unfold takeR; rw [if_neg (by omega), if_neg (by omega), if_pos h]
theorem take_ack (h : f.kind = 5) : takeR R from_ f ms now = if R.knownB f = true ∧ isNodeB from_ R.nextM = true then ackR R f else (R, []) := by
  unfold takeR; rw [if_neg (by omega), if_neg (by omega), if_neg (by omega), if_pos h]
theorem take_base (h : f.kind = 6) : takeR R from_ f ms now = if R.knownB f = true ∧ isNodeB from_ R.prevM = true then ((baseR R f.index).becomeR, (baseR R f.index).becomeM) else (R, []) := by
  unfold takeR; rw [if_neg (by omega), if_neg (by omega), if_neg (by omega), if_neg (by omega), if_pos h]
end
structure FrI (b : Int) (i : Nat) (R : RepM) : Prop where
  fit : R.Fit
  ch : R.ch = chF
  id : R.id = 2
  since : R.since = 2
  whole : R.whole = (decide (0 ≤ b) && decide (b ≤ i))
  base : R.base = b
  log : R.log = entsF i
  last : R.win.last = i
  done : R.win.done = i
  rl : R.rds.l = []
  rlast : R.rds.last = 0
  cl : 1 ≤ R.clients
  low : -1 ≤ b
theorem FrI.tail {b : Int} {i : Nat} {R : RepM} (h : FrI b i R) : R.tailB = true := by
  rw [RepM.tailB, RepM.inB, h.since, h.ch, chF_is.1, h.id]; rfl
theorem new_blank (c : ConfM) : (newR (cF c) 2 false).whole = false ∧ (newR (cF c) 2 false).since = 0 := by
  have e : sinceOf (firstC (cF c)) 2 = (0, false) := by
    show sinceOf ⟨1, firstMs 2, -1⟩ 2 = (0, false)
    decide +kernel
  unfold newR
  rw [if_neg (by simp), if_neg (by rw [e]; simp)]
  exact ⟨rfl, rfl⟩
theorem new_is (c : ConfM) : newR (cF c) 2 false = { newR0 (cF c) 2 with ch := firstC (cF c) } := by
  have e : sinceOf (firstC (cF c)) 2 = (0, false) := by
    show sinceOf ⟨1, firstMs 2, -1⟩ 2 = (0, false)
    decide +kernel
  unfold newR
  rw [if_neg (by simp), if_neg (by rw [e]; simp)]
theorem fr_enter (c : ConfM) : FrI (-1) 0 (takeR (newR (cF c) 2 false) 16 cfgF chF.ms 0).1 := by
  have hb := conf_bounds (cF_fit c)
  have f0 := newR_fit (cF_fit c) 2 false
  have hf := takeR_fit f0 (by rw [new_is]; exact (by decide : (0 : Int) < 100000000)) 16 cfgF chF.ms 0
  have e1 : takeR (newR (cF c) 2 false) 16 cfgF chF.ms 0 = enterR (newR (cF c) 2 false) chF := by
    unfold takeR
    rw [if_neg (by decide), if_pos (by decide), if_pos ⟨⟨rfl, chF_is.2.2.1⟩, by rw [new_is]; exact (by decide : (1 : Int) < 2)⟩]; rfl
  rw [e1] at hf ⊢
  rw [new_is] at hf ⊢
  have hs := chF_is.2.2.2.1
  generalize hR : ({ newR0 (cF c) 2 with ch := firstC (cF c) } : RepM) = R at hf ⊢
  have i1 : R.id = 2 := by rw [← hR]; rfl
  have i2 : R.since = 0 := by rw [← hR]; rfl
  have i3 : R.whole = false := by rw [← hR]; rfl
  have i4 : R.clients = (cF c).clients := by rw [← hR]; rfl
  have i5 : R.rds.last = 0 := by rw [← hR]; rfl
  have n1 : nlB R chF = true := by rw [nlB, i1, i2, hs]; rfl
  have n2 : nwB R chF = true := by rw [nwB, i1, i2, hs]; rfl
  have w4 : (ent4 R chF).whole = false := by show (if nwB R chF then false else R.whole) = false; rw [n2]; rfl
  have e5 : ent5 R chF = ent4 R chF := by rw [ent5, w4]; rfl
  have l4 : (ent4 R chF).win = { WinM.new R.cap with sent := 0, limit := 0 } := by show ({ (if nlB R chF then WinM.new R.cap else R.win) with sent := (if nlB R chF then WinM.new R.cap else R.win).last, limit := 0 } : WinM) = _; rw [n1]; rfl
  have g4 : (ent4 R chF).log = [] := by show (if nlB R chF then [] else R.log) = []; rw [n1]; rfl
  have s4 : (ent4 R chF).since = 2 := by show (sinceOf chF R.id).1 = 2; rw [i1, hs]
  have hst := finish_stays (ent4 R chF)
  have hw : (ent4 R chF).finishR.win.last = 0 ∧ (ent4 R chF).finishR.win.done = 0 := by
    unfold RepM.finishR; split
    · show (WinM.ack _ _).last = 0 ∧ (WinM.ack _ _).done = 0
      rw [l4]; exact ⟨rfl, rfl⟩
    · rw [l4]; exact ⟨rfl, rfl⟩
  have ho : (ent4 R chF).finishR.ch = chF ∧ (ent4 R chF).finishR.since = 2 ∧ (ent4 R chF).finishR.whole = false ∧ (ent4 R chF).finishR.base = -1 ∧ (ent4 R chF).finishR.log = [] ∧ (ent4 R chF).finishR.rds.l = [] ∧ (ent4 R chF).finishR.rds.last = 0 := by
    unfold RepM.finishR; split <;> exact ⟨rfl, s4, w4, rfl, g4, rfl, i5⟩
  have er : (enterR R chF).1 = (ent4 R chF).finishR := by show (ent5 R chF).finishR = _; rw [e5]
  rw [er] at hf ⊢
  exact ⟨hf, ho.1, by rw [hst.id]; exact i1, ho.2.1, by rw [ho.2.2.1]; rfl, ho.2.2.2.1, by rw [ho.2.2.2.2.1]; rfl, hw.1, hw.2, ho.2.2.2.2.2.1, ho.2.2.2.2.2.2, by rw [hst.clients]; show 1 ≤ R.clients; rw [i4]; omega, by decide⟩
/-- An entry comes, in order. -/
theorem fr_next {b : Int} {i : Nat} {R : RepM} (h : FrI b i R) (hi : i < 40) : FrI b (i + 1) (takeR R 1 (fwdF i) [] 0).1 := by
  have hf := takeR_fit h.fit (by rw [h.rlast]; decide) 1 (fwdF i) [] 0
  have hst := take_stays R 1 (fwdF i) [] 0
  have hw := h.fit.ok.win
  have w0 := hw.cap0
  have hl := h.last; have hd := h.done
  have he : fwdB R (entF i) = true ∧ logErr R.log (entF i) = 0 := by
    refine ⟨?_, by rw [h.log]; exact entsF_err i (List.mem_range.2 hi)⟩
    rw [fwdB, Bool.and_eq_true]
    refine ⟨by rw [hl]; show ((i : Int) + 1 == i + 1) = true; simp, decide_eq_true (by omega)⟩
  have e1 : takeR R 1 (fwdF i) [] 0 = forwardR R (entF i) := by
    rw [take_fwd rfl, if_pos ⟨by rw [RepM.knownB, h.ch]; rfl, by rw [RepM.prevM, h.ch, h.id, chF_is.2.1]; rfl⟩]
    rfl
  rw [e1] at hf hst ⊢
  have e2 : (forwardR R (entF i)).1 = (pushE R (entF i)).finishR.becomeR := by rw [forwardR, if_pos he]
  rw [e2] at hf hst ⊢
  have ht : (pushE R (entF i)).tailB = true := h.tail
  have e3 : (pushE R (entF i)).finishR = { pushE R (entF i) with win := (pushE R (entF i)).win.ack (pushE R (entF i)).win.last } := by rw [RepM.finishR, if_pos ht]
  have hlast : (pushE R (entF i)).win.last = (i : Int) + 1 := by show R.win.last + 1 = _; rw [hl]
  have hk : ((pushE R (entF i)).win.ack (pushE R (entF i)).win.last).last = (i : Int) + 1 ∧ ((pushE R (entF i)).win.ack (pushE R (entF i)).win.last).done = (i : Int) + 1 := by
    have : (pushE R (entF i)).win.ackB (pushE R (entF i)).win.last = true := by
      rw [WinM.ackB, hlast, Bool.and_eq_true]
      exact ⟨decide_eq_true (by show R.win.done < _; omega), decide_eq_true (by omega)⟩
    rw [WinM.ack, if_pos this]
    exact ⟨hlast, hlast⟩
  generalize hQ : (pushE R (entF i)).finishR = Q at *
  have q : Q.ch = chF ∧ Q.id = 2 ∧ Q.since = 2 ∧ Q.whole = R.whole ∧ Q.base = b ∧ Q.log = entsF (i + 1) ∧ Q.win.last = (i : Int) + 1 ∧ Q.win.done = (i : Int) + 1 ∧ Q.rds.l = [] ∧ Q.rds.last = 0 := by
    rw [e3]
    exact ⟨h.ch, h.id, h.since, rfl, h.base, by show R.log ++ [entF i] = _; rw [h.log, entsF_succ], hk.1, hk.2, h.rl, h.rlast⟩
  obtain ⟨q1, q2, q3, q4, q5, q6, q7, q8, q9, q10⟩ := q
  have hb : Q.becomeB = (!(decide (0 ≤ b) && decide (b ≤ i)) && (decide (b ≠ -1) && decide (b ≤ (i : Int) + 1))) := by
    rw [RepM.becomeB, RepM.inB, q3, q4, h.whole, q5, q7]; rfl
  have hcl : 1 ≤ Q.becomeR.clients := by rw [hst.clients]; exact h.cl
  have hk1 : ∀ j : Int, -1 ≤ b → True := fun _ _ => trivial
  by_cases hbb : Q.becomeB = true
  · have e4 : Q.becomeR = { Q with whole := true, start := Q.win.last } := by rw [RepM.becomeR, if_pos hbb]
    refine ⟨hf, by rw [e4]; exact q1, by rw [e4]; exact q2, by rw [e4]; exact q3, ?_, by rw [e4]; exact q5, by rw [e4]; exact q6, by rw [e4]; exact q7, by rw [e4]; exact q8, by rw [e4]; exact q9, by rw [e4]; exact q10, hcl, h.low⟩
    rw [e4]
    rw [hb] at hbb
    simp only [Bool.and_eq_true, Bool.not_eq_true', decide_eq_true_eq, Bool.and_eq_false_iff, decide_eq_false_iff_not] at hbb
    show true = _
    rw [eq_comm, Bool.and_eq_true]
    have := h.low
    exact ⟨decide_eq_true (by omega), decide_eq_true (by push_cast; omega)⟩
  · have e4 : Q.becomeR = Q := by rw [RepM.becomeR, if_neg hbb]
    refine ⟨hf, by rw [e4]; exact q1, by rw [e4]; exact q2, by rw [e4]; exact q3, ?_, by rw [e4]; exact q5, by rw [e4]; exact q6, by rw [e4]; exact q7, by rw [e4]; exact q8, by rw [e4]; exact q9, by rw [e4]; exact q10, hcl, h.low⟩
    rw [e4, q4, h.whole]
    rw [hb] at hbb
    have := h.low
    by_cases h0 : 0 ≤ b
    · rw [decide_eq_true h0] at hbb ⊢
      by_cases h1 : b ≤ (i : Int)
      · rw [decide_eq_true h1, decide_eq_true (show b ≤ ((i + 1 : Nat) : Int) by push_cast; omega)]
      · rw [decide_eq_false h1, decide_eq_true (show b ≠ -1 by omega)] at hbb
        rw [decide_eq_false h1]
        have h2 : ¬ b ≤ (i : Int) + 1 := fun h2 => hbb (by rw [decide_eq_true h2]; rfl)
        rw [decide_eq_false (show ¬ b ≤ ((i + 1 : Nat) : Int) by push_cast; omega)]
    · rw [decide_eq_false h0]; rfl
/-- The base comes. -/
theorem fr_base {i : Nat} {R : RepM} (h : FrI (-1) i R) {b : Int} (hb : 0 ≤ b) : FrI b i (takeR R 1 (basF b) [] 0).1 := by
  have hf := takeR_fit h.fit (by rw [h.rlast]; decide) 1 (basF b) [] 0
  have hst := take_stays R 1 (basF b) [] 0
  have e1 : takeR R 1 (basF b) [] 0 = ((baseR R b).becomeR, (baseR R b).becomeM) := by
    rw [take_base rfl, if_pos ⟨by rw [RepM.knownB, h.ch]; rfl, by rw [RepM.prevM, h.ch, h.id, chF_is.2.1]; rfl⟩]
    rfl
  have hcl : 1 ≤ (takeR R 1 (basF b) [] 0).1.clients := by rw [hst.clients]; exact h.cl
  rw [e1] at hf hst hcl ⊢
  have hw : R.whole = false := by rw [h.whole]; rfl
  have hm : max b (-1) = b := by omega
  have hbe : (baseR R b).becomeB = decide (b ≤ (i : Int)) := by
    rw [RepM.becomeB, RepM.inB]
    show (decide (0 < R.since) && (!R.whole && (decide (max b (-1) ≠ -1) && decide (max b (-1) ≤ R.win.last)))) = _
    rw [h.since, hw, hm, h.last, decide_eq_true (show b ≠ -1 by omega)]; rfl
  by_cases hbb : b ≤ (i : Int)
  · have e4 : (baseR R b).becomeR = { baseR R b with whole := true, start := R.win.last } := by rw [RepM.becomeR, hbe, if_pos (decide_eq_true hbb)]; rfl
    dsimp only at hf hcl ⊢
    rw [e4] at hf hcl ⊢
    exact ⟨hf, h.ch, h.id, h.since, by show true = _; rw [decide_eq_true hb, decide_eq_true hbb]; rfl, hm, h.log, h.last, h.done, h.rl, h.rlast, hcl, by omega⟩
  · have e4 : (baseR R b).becomeR = baseR R b := by rw [RepM.becomeR, hbe, decide_eq_false hbb]; rfl
    dsimp only at hf hcl ⊢
    rw [e4] at hf hcl ⊢
    exact ⟨hf, h.ch, h.id, h.since, by show R.whole = _; rw [hw, decide_eq_false hbb, Bool.and_false], hm, h.log, h.last, h.done, h.rl, h.rlast, hcl, by omega⟩
/-- It is asked. -/
theorem fr_get {b : Int} {i : Nat} {R : RepM} (h : FrI b i R) : (R.whole = false → takeR R 32 getF [] 0 = (R, [(32, refuseF 2 getF 8)])) ∧ (R.whole = true → (takeR R 32 getF [] 0).2 = [(16, confirmF 2 1)] ∧ (takeR R 32 getF [] 0).1.whole = true) := by
  have hc := h.cl
  have e1 : takeR R 32 getF [] 0 = readR R getF 0 := by
    rw [take_call rfl (by decide) (by show (0 : Int) < R.clients; omega), if_pos chF_is.2.2.2.2]
  have k1 : R.knownB getF = true := by rw [RepM.knownB, h.ch]; rfl
  rw [e1]
  constructor
  · intro hw
    have e2 : readReason R getF 0 = 8 := by rw [readReason, if_neg (by rw [k1]; simp), if_neg (by rw [h.tail]; simp), if_pos hw]
    rw [readR, e2, if_pos (by decide), h.ch]; rfl
  · intro hw
    have hm := h.fit.most; have hr := h.fit.ok.rc0
    have e2 : readReason R getF 0 = 0 := by
      rw [readReason, if_neg (by rw [k1]; simp), if_neg (by rw [h.tail]; simp), if_neg (by rw [hw]; simp), if_neg (by decide), h.rl, if_neg (by show ¬ R.most ≤ (0 : Int); omega)]
    rw [readR, e2, if_neg (by simp), h.ch, h.rlast]
    exact ⟨rfl, hw⟩
end Go.Proofs.YtbbnmgakmcppdaaGreat.Rep
namespace Go.Proofs.YtbbnmgakmcppdaaGreat.Rep
open Go Go.Proofs.YtbbnmgakmcppdaaGreat.Vg Go.Proofs.YtbbnmgakmcppdaaGreat.T Go.Proofs.YtbbnmgakmcppdaaGreat.Api Go.Proofs.YtbbnmgakmcppdaaGreat.Kv Go.Proofs.YtbbnmgakmcppdaaGreat.Ch Go.Proofs.YtbbnmgakmcppdaaGreat.Lg Go.Proofs.YtbbnmgakmcppdaaGreat.Rd Go.Proofs.YtbbnmgakmcppdaaGreat.Win Go.Proofs.YtbbnmgakmcppdaaGreat.Adm Go.Proofs.YtbbnmgakmcppdaaGreat.Sched Go.Proofs.YtbbnmgakmcppdaaGreat.Conf
set_option linter.unusedSimpArgs false
set_option linter.unusedVariables false

def cT (c : ConfM) : ConfM := { fitM c with nodes := 2, chain := 2 }
theorem cT_fit (c : ConfM) : cT c = fitM (cT c) := by
  have h := fit_idem c
  have e : ∀ {a b : ConfM}, a = b → a.clients = b.clients ∧ a.qs = b.qs ∧ a.queue = b.queue ∧ a.window = b.window ∧ a.reads = b.reads ∧ a.link = b.link ∧ a.patience = b.patience ∧ a.timeout = b.timeout ∧ a.budget = b.budget ∧ a.refill = b.refill := fun h => by subst h; exact ⟨rfl, rfl, rfl, rfl, rfl, rfl, rfl, rfl, rfl, rfl⟩
  obtain ⟨h1, h2, h3, h4, h5, h6, h7, h8, h9, h10⟩ := e h
  exact conf_ext (by show (2 : Int) = near 2 1 6; decide) (by show (2 : Int) = near 2 1 (near 2 1 6); decide) h1 h2 h3 h4 h5 h6 h7 h8 h9 h10
def chT2 : ChM := ⟨1, [(0, 1), (1, 1)], -1⟩
theorem chT2_is : headOf chT2 = 0 ∧ tailOf chT2 = 1 ∧ prevOf chT2 1 = 0 ∧ nextOf chT2 0 = 1 ∧ prevOf chT2 0 = -1 ∧ nextOf chT2 1 = -1 ∧ sinceOf chT2 0 = (1, true) ∧ sinceOf chT2 1 = (1, true) := by decide +kernel
theorem firstT (c : ConfM) : firstC (cT c) = chT2 := by
  show (⟨1, firstMs 2, -1⟩ : ChM) = chT2
  rfl
theorem newT (c : ConfM) {id : Int} (h : sinceOf chT2 id = (1, true)) : newR (cT c) id false = { newR0 (cT c) id with ch := chT2, since := 1, whole := true, start := 0 } := by
  unfold newR
  rw [firstT, if_neg (by simp), h, if_pos rfl]
def fwdE (e : EntryM) : FrameM := { FrameM.zero with kind := 4, epoch := 1, entry := e }
structure TlI (R : RepM) : Prop where
  fit : R.Fit
  ch : R.ch = chT2
  id : R.id = 1
  since : R.since = 1
  whole : R.whole = true
  done : R.win.done = R.win.last
  rlast : R.rds.last = 0
theorem TlI.tail {R : RepM} (h : TlI R) : R.tailB = true := by rw [RepM.tailB, RepM.inB, h.since, h.ch, chT2_is.2.1, h.id]; rfl
theorem TlI.prev {R : RepM} (h : TlI R) : R.prevM = 0 := by rw [RepM.prevM, h.ch, h.id, chT2_is.2.2.1]
theorem tl_new (c : ConfM) : TlI (newR (cT c) 1 false) := by
  have hf := newR_fit (cT_fit c) 1 false
  rw [newT c chT2_is.2.2.2.2.2.2.2] at hf ⊢
  exact ⟨hf, rfl, rfl, rfl, rfl, rfl, rfl⟩
theorem greetT {R : RepM} (h : TlI R) : ∃ g, R.greetM = [(0, ackF 1 R.win.done g R.win.last)] := by
  rw [RepM.greetM, h.prev, if_neg (by decide), h.ch]; exact ⟨_, rfl⟩
def tlRes (es : List EntryM) (e : EntryM) : ResM := (atI (logRun (es ++ [e])).2 ((es.length : Int) + 1)).getD resZ
theorem atI_snoc {α : Type} (es : List α) (e : α) : atI (es ++ [e]) ((es.length : Int) + 1) = some e := by
  unfold atI
  rw [if_pos (by omega)]
  rw [show ((es.length : Int) + 1 - 1).toNat = es.length by omega, List.getElem?_append_right (Nat.le_refl _), Nat.sub_self]; rfl
theorem tl_step {R : RepM} (h : TlI R) (e : EntryM) :
    ((takeR R 0 (fwdE e) [] 0).1 = R ∧ ∃ g, (takeR R 0 (fwdE e) [] 0).2 = [(0, ackF 1 R.log.length g R.log.length)]) ∨
    (TlI (takeR R 0 (fwdE e) [] 0).1 ∧ (takeR R 0 (fwdE e) [] 0).1.log = R.log ++ [e] ∧ e.index = R.log.length + 1 ∧ 0 ≤ e.client ∧ e.client < 6 ∧
      ∃ g, (takeR R 0 (fwdE e) [] 0).2 = [(32 + e.client, replyF e.client e.seq 0 (tlRes R.log e)), (0, ackF 1 ((R.log.length : Int) + 1) g ((R.log.length : Int) + 1))]) := by
  have hl := h.fit.ok.last
  have e1 : takeR R 0 (fwdE e) [] 0 = forwardR R e := by
    rw [take_fwd rfl, if_pos ⟨by rw [RepM.knownB, h.ch]; rfl, by rw [h.prev]; rfl⟩]; rfl
  have hf := takeR_fit h.fit (by rw [h.rlast]; decide) 0 (fwdE e) [] 0
  have hst := take_stays R 0 (fwdE e) [] 0
  rw [e1] at hf hst ⊢
  by_cases he : fwdB R e = true ∧ logErr R.log e = 0
  · refine .inr ?_
    have hok := logErr_ok he.2
    have hbad := hok.1
    have hcl : 0 ≤ e.client ∧ e.client < 6 := by
      simp only [badE, Bool.or_eq_false_iff, decide_eq_false_iff_not] at hbad
      omega
    have e2 : forwardR R e = ((pushE R e).finishR.becomeR, (pushE R e).finishM ++ (pushE R e).finishR.becomeM ++ (pushE R e).finishR.becomeR.greetM) := by rw [forwardR, if_pos he]
    rw [e2] at hf hst ⊢
    have ht : (pushE R e).tailB = true := h.tail
    have hlast : (pushE R e).win.last = (R.log.length : Int) + 1 := by show R.win.last + 1 = _; rw [hl]
    have hdone : (pushE R e).win.done = (R.log.length : Int) := by show R.win.done = _; rw [h.done, hl]
    have hM : (pushE R e).finishM = [(32 + e.client, replyF e.client e.seq 0 (tlRes R.log e))] := by
      rw [RepM.finishM, if_pos ht, hlast, hdone, show ((R.log.length : Int) + 1 - R.log.length).toNat = 1 by omega, replies, hdone]
      show [replyOf (pushE R e) ((R.log.length : Int) + 1 + (0 : Nat))] = _
      rw [show (R.log.length : Int) + 1 + ((0 : Nat) : Int) = R.log.length + 1 by simp, replyOf]
      have ea : (atI (pushE R e).log ((R.log.length : Int) + 1)).getD entZ = e := by show (atI (R.log ++ [e]) _).getD entZ = e; rw [atI_snoc]; rfl
      rw [ea]; rfl
    have e3 : (pushE R e).finishR = { pushE R e with win := (pushE R e).win.ack (pushE R e).win.last } := by rw [RepM.finishR, if_pos ht]
    have hk : ((pushE R e).win.ack (pushE R e).win.last).last = (R.log.length : Int) + 1 ∧ ((pushE R e).win.ack (pushE R e).win.last).done = (R.log.length : Int) + 1 := by
      have : (pushE R e).win.ackB (pushE R e).win.last = true := by
        rw [WinM.ackB, hlast, hdone, Bool.and_eq_true]
        exact ⟨decide_eq_true (by omega), decide_eq_true (by omega)⟩
      rw [WinM.ack, if_pos this]
      exact ⟨hlast, hlast⟩
    have q : (pushE R e).finishR.ch = chT2 ∧ (pushE R e).finishR.id = 1 ∧ (pushE R e).finishR.since = 1 ∧ (pushE R e).finishR.whole = true ∧ (pushE R e).finishR.log = R.log ++ [e] ∧ (pushE R e).finishR.win.last = (R.log.length : Int) + 1 ∧ (pushE R e).finishR.win.done = (R.log.length : Int) + 1 ∧ (pushE R e).finishR.rds.last = 0 := by
      rw [e3]
      exact ⟨h.ch, h.id, h.since, h.whole, rfl, hk.1, hk.2, h.rlast⟩
    generalize hQ : (pushE R e).finishR = Q at *
    obtain ⟨q1, q2, q3, q4, q5, q6, q7, q8⟩ := q
    have hb : Q.becomeB = false := by rw [RepM.becomeB, q4]; simp
    have e4 : Q.becomeR = Q ∧ Q.becomeM = [] := by rw [RepM.becomeR, RepM.becomeM, hb]; exact ⟨rfl, rfl⟩
    rw [e4.1] at hf
    rw [e4.1, e4.2, hM]
    have hT : TlI Q := ⟨hf, q1, q2, q3, q4, by rw [q6, q7], q8⟩
    obtain ⟨g, hg⟩ := greetT hT
    rw [q6, q7] at hg
    exact ⟨hT, q5, hok.2.2.1, hcl.1, hcl.2, g, by rw [hg]; rfl⟩
  · refine .inl ?_
    have e2 : forwardR R e = (R, R.greetM) := by rw [forwardR, if_neg he]
    obtain ⟨g, hg⟩ := greetT h
    rw [e2, hg, h.done, hl]
    exact ⟨rfl, g, rfl⟩
end Go.Proofs.YtbbnmgakmcppdaaGreat.Rep
namespace Go.Proofs.YtbbnmgakmcppdaaGreat.Rep
open Go Go.Proofs.YtbbnmgakmcppdaaGreat.Vg Go.Proofs.YtbbnmgakmcppdaaGreat.T Go.Proofs.YtbbnmgakmcppdaaGreat.Api Go.Proofs.YtbbnmgakmcppdaaGreat.Kv Go.Proofs.YtbbnmgakmcppdaaGreat.Ch Go.Proofs.YtbbnmgakmcppdaaGreat.Lg Go.Proofs.YtbbnmgakmcppdaaGreat.Rd Go.Proofs.YtbbnmgakmcppdaaGreat.Win Go.Proofs.YtbbnmgakmcppdaaGreat.Adm Go.Proofs.YtbbnmgakmcppdaaGreat.Sched Go.Proofs.YtbbnmgakmcppdaaGreat.Conf
set_option linter.unusedSimpArgs false
set_option linter.unusedVariables false
attribute [local irreducible] VO VC VA

def resEq (o p : ResM) : Bool := decide (o.code = p.code) && (decide (o.value = p.value) && (decide (o.version = p.version) && (decide (o.at_ = p.at_) && true)))
theorem resEq_rfl (o : ResM) : resEq o o = true := by simp [resEq]
theorem stoodRes : Tryz.prog.stoodInHeld 42 = false := by kernel_rfl
theorem guardRes : Tryz.prog.eqGuardType Tryz.prog.depth 42 = false := by kernel_rfl
theorem res_eq (o p : ResM) (w : World) : (Op.equal 42 (.agg (resC o).toArray) (.agg (resC p).toArray)).run Tryz.prog w = .ok (resEq o p) w := by
  have hi : ∀ (cs : List Value) (j : Nat) (n : Int), cs[j]? = some (.int .i64 n) → ∀ w : World, (part 3 cs.toArray j).run Tryz.prog w = .ok (.int .i64 n) w := fun cs j n h w => part1 (TabOk.look tabOk (t := 3) (ti := T.t3) rfl) rfl h w
  have hs : ∀ (cs : List Value) (j : Nat) (s : ByteArray), cs[j]? = some (.string s) → ∀ w : World, (part 9 cs.toArray j).run Tryz.prog w = .ok (.string s) w := fun cs j n h w => part1 (TabOk.look tabOk (t := 9) (ti := T.t9) rfl) rfl h w
  refine EqT.run (EqT.st Tryz.underlying42 stoodRes (EqFs.cons (by decide) (hi _ _ _ rfl) (hi _ _ _ rfl) (EqT.int Tryz.underlying3 o.code p.code) (EqFs.cons (by decide) (hs _ _ _ rfl) (hs _ _ _ rfl) (EqT.str Tryz.underlying9 o.value p.value) (EqFs.cons (by decide) (hi _ _ _ rfl) (hi _ _ _ rfl) (EqT.int Tryz.underlying3 o.version p.version) (EqFs.cons (by decide) (hi _ _ _ rfl) (hi _ _ _ rfl) (EqT.int Tryz.underlying3 o.at_ p.at_) EqFs.nil))))) (by decide) w
/-- A slice of some rows, opened. -/
theorem HOpn.row {α : Type} {c : α → List Value} {n : Nat} (el : Nat) (a : Option Addr) (cap : Nat) (xs : List α) (hne : xs ≠ []) : HOpn (ι := Nat × List Value) (slH el n a xs.length cap (flat c xs)) (fun y => a = some ⟨y.1, 0, none⟩) (fun y => [pt y.1 (flat c xs ++ y.2) el]) := by
  intro w ids h hn
  obtain ⟨y, hy, ids', h1, h2, h3⟩ := HOpn.sl el n a xs.length cap (flat c xs) w ids h hn
  cases y with
  | none => obtain ⟨_, _, _, h, _⟩ := hy; exact absurd (List.eq_nil_of_length_eq_zero h) hne
  | some y =>
    obtain ⟨b, rest⟩ := y
    obtain ⟨_, _, h7, _⟩ := hy
    exact ⟨(b, rest), h7, ids', h1, h2, h3⟩
set_option maxRecDepth 100000 in
theorem chief_spec (Fr : Nat → Prop) (w : World) (c : ConfM) (ca : Option Addr) (cc : Nat) (hq : IntsIn Fr w ca c.qs) (id : Int) (h0 : 0 ≤ id) (h1 : id < 2) : Tri Tryz.prog 20 [.agg (c.cells ca cc).toArray, .int .i64 id] Fr w []
    (fun v L => ∃ p, v = .tuple #[.pointer (some ⟨p, 0, none⟩), .bool true] ∧ L = [repH p (newR (cT c) id false)]) := by
  refine Tri.of 25 Tryz.func20 rfl (by kernel_rfl) tabOk rfl rfl ?_
  refine VC.seq (VC.region (VO.go (VO.boxA (vs := c.cells ca cc) rfl fun cb => ?_)))
  (repeat (first | refine VC.seq ?_ | refine VC.region ?_ | refine VC.block ?_ | refine VC.label ?_ | refine VC.scope ?_ | refine VO.go (VO.nil ?_) | refine VO.go (VO.ld 0 rfl rfl rfl rfl ?_)))
  refine VO.go (VO.ldA 0 (c.cells ca cc) rfl rfl rfl rfl ?_)
  refine VO.go (VO.call (Lc := []) (fun Fr w hF hs _ => rfit_spec Fr w c ca cc (ints_of hq hF hs)) rfl rfl ?_)
  rintro _ _ ⟨a, cap, ha, hcap, rfl, rfl⟩
  refine VO.go (VO.stA (vs := (fitM c).cells a cap) (cs' := (fitM c).cells a cap) 1 rfl rfl rfl rfl (Nat.le_refl _) rfl rfl rfl (VO.go (VO.nil ?_)))
  (repeat (first | refine VC.seq ?_ | refine VC.region ?_ | refine VC.block ?_ | refine VC.label ?_ | refine VC.scope ?_ | refine VO.go (VO.nil ?_) | refine VO.go (VO.ld 0 rfl rfl rfl rfl ?_)))
  refine VO.go (VO.st 1 (cs' := { fitM c with nodes := 2 }.cells a cap) rfl rfl rfl rfl (by show 0 < 12; omega) rfl rfl ?_)
  (repeat (first | refine VC.seq ?_ | refine VC.region ?_ | refine VC.block ?_ | refine VC.label ?_ | refine VC.scope ?_ | refine VO.go (VO.nil ?_) | refine VO.go (VO.ld 0 rfl rfl rfl rfl ?_)))
  refine VO.go (VO.st 1 (cs' := (cT c).cells a cap) rfl rfl rfl rfl (by show 1 < 12; omega) rfl rfl ?_)
  (repeat (first | refine VC.seq ?_ | refine VC.region ?_ | refine VC.block ?_ | refine VC.label ?_ | refine VC.scope ?_ | refine VO.go (VO.nil ?_) | refine VO.go (VO.ld 0 rfl rfl rfl rfl ?_)))
  refine VO.go (VO.ldA 1 ((cT c).cells a cap) rfl rfl rfl rfl ?_)
  (repeat (first | refine VC.seq ?_ | refine VC.region ?_ | refine VC.block ?_ | refine VC.label ?_ | refine VC.scope ?_ | refine VO.go (VO.nil ?_) | refine VO.go (VO.ld 0 rfl rfl rfl rfl ?_)))
  refine VO.go (VO.call (Lc := []) (fun Fr w _ _ h2 => new_spec Fr w (cT c) a cap (ints_sl (h2.at_ 0 rfl)) ha hcap id false) rfl rfl ?_)
  intro v L hv
  rw [if_pos (show newOkB (cT c) id from ⟨cT_fit c, h0, h1⟩)] at hv
  obtain ⟨p, rfl, rfl⟩ := hv
  (repeat (first | refine VC.seq ?_ | refine VC.region ?_ | refine VC.block ?_ | refine VC.label ?_ | refine VC.scope ?_ | refine VO.go (VO.nil ?_) | refine VO.go (VO.ld 0 rfl rfl rfl rfl ?_)))
  refine VO.go (VO.yes 21 true rfl rfl ?_)
  (repeat (first | refine VC.seq ?_ | refine VC.region ?_ | refine VC.block ?_ | refine VC.label ?_ | refine VC.scope ?_ | refine VO.go (VO.nil ?_) | refine VO.go (VO.ld 0 rfl rfl rfl rfl ?_) | refine VO.go (VO.offU rfl rfl rfl ?_)))
  exact VC.ret (Ret.tmp2 4 5 rfl rfl rfl (Imp.pick 0 rfl Imp.nil).ent ⟨p, rfl, rfl⟩)
set_option maxRecDepth 100000 in
set_option maxHeartbeats 8000000 in
theorem tails_spec (Fr : Nat → Prop) (w : World) (c : ConfM) (ca : Option Addr) (cc : Nat) (hq : IntsIn Fr w ca c.qs) (la : Option Addr) (lc : Nat) (l : List EntryM) (hl : RwIn entC 7 Fr w la l) (hlb : ∀ e ∈ l, -9223372036854775808 ≤ e.index ∧ e.index ≤ 9223372036854775807) (turn : Int) (ht0 : 0 ≤ turn ∧ turn ≤ 255) :
    Tri Tryz.prog 4 [.agg (c.cells ca cc).toArray, .slice la l.length lc, .int .u8 turn] Fr w [] (fun v L => v = .bool true ∧ L = []) := by
  refine Tri.of 204 Tryz.func4 rfl (by kernel_rfl) tabOk rfl rfl ?_
  refine VC.seq (VC.region (VO.go (VO.boxA (vs := c.cells ca cc) rfl fun cb => ?_)))
  (repeat (first | refine VC.seq ?_ | refine VC.region ?_ | refine VC.block ?_ | refine VC.label ?_ | refine VC.scope ?_ | refine VO.go (VO.nil ?_) | refine VO.go (VO.ld 0 rfl rfl rfl rfl ?_)))
  by_cases hbig : 20 < c.qs.length
  · refine VO.go (VO.yes 21 true rfl (decide_eq_true (by omega)) ?_)
    (repeat (first | refine VC.seq ?_ | refine VC.region ?_ | refine VC.block ?_ | refine VC.label ?_ | refine VC.scope ?_ | refine VO.go (VO.nil ?_) | refine VO.go (VO.ld 0 rfl rfl rfl rfl ?_) | refine VO.go (VO.offU rfl rfl rfl ?_)))
    refine VC.condT rfl ?_
    (repeat (first | refine VC.seq ?_ | refine VC.region ?_ | refine VC.block ?_ | refine VC.label ?_ | refine VC.scope ?_ | refine VO.go (VO.nil ?_) | refine VO.go (VO.ld 0 rfl rfl rfl rfl ?_)))
    refine VO.go (VO.callV (fun Fr w => led_spec Fr w) rfl ?_)
    (repeat (first | refine VC.seq ?_ | refine VC.region ?_ | refine VC.block ?_ | refine VC.label ?_ | refine VC.scope ?_ | refine VO.go (VO.nil ?_) | refine VO.go (VO.ld 0 rfl rfl rfl rfl ?_)))
    exact VC.ret (Ret.bool 6 rfl rfl rfl Imp.nil.ent ⟨rfl, rfl⟩)
  refine VO.go (VO.yes 21 false rfl (decide_eq_false (by omega)) ?_)
  (repeat (first | refine VC.seq ?_ | refine VC.region ?_ | refine VC.block ?_ | refine VC.label ?_ | refine VC.scope ?_ | refine VO.go (VO.nil ?_) | refine VO.go (VO.ld 0 rfl rfl rfl rfl ?_) | refine VO.go (VO.offU rfl rfl rfl ?_)))
  refine VC.condP rfl (fun h1 => ?_) (fun h1 => VC.skip ?_)
  · (repeat (first | refine VC.seq ?_ | refine VC.region ?_ | refine VC.block ?_ | refine VC.label ?_ | refine VC.scope ?_ | refine VO.go (VO.nil ?_) | refine VO.go (VO.ld 0 rfl rfl rfl rfl ?_)))
    refine VO.go (VO.callV (fun Fr w => led_spec Fr w) rfl ?_)
    (repeat (first | refine VC.seq ?_ | refine VC.region ?_ | refine VC.block ?_ | refine VC.label ?_ | refine VC.scope ?_ | refine VO.go (VO.nil ?_) | refine VO.go (VO.ld 0 rfl rfl rfl rfl ?_)))
    exact VC.ret (Ret.bool 6 rfl rfl rfl Imp.nil.ent ⟨rfl, rfl⟩)
  have hll : l.length ≤ 40 := by omega
  (repeat (first | refine VC.seq ?_ | refine VC.region ?_ | refine VC.block ?_ | refine VC.label ?_ | refine VC.scope ?_ | refine VO.go (VO.nil ?_) | refine VO.go (VO.ld 0 rfl rfl rfl rfl ?_)))
  refine VO.go (VO.ldA 0 (c.cells ca cc) rfl rfl rfl rfl ?_)
  refine VO.go (VO.call (Lc := []) (fun Fr w hF hs _ => chief_spec Fr w c ca cc (ints_of hq hF hs) 1 (by decide) (by decide)) rfl rfl ?_)
  rintro _ _ ⟨p, rfl, rfl⟩
  have T0 := tl_new c
  have g0 : (newR (cT c) 1 false).log = [] := by rw [newT c chT2_is.2.2.2.2.2.2.2]; rfl
  generalize newR (cT c) 1 false = R0 at T0 g0
  refine VO.ent (L' := [repH p R0]) (Imp.pick 0 rfl Imp.nil).ent ?_
  (repeat (first | refine VC.seq ?_ | refine VC.region ?_ | refine VC.block ?_ | refine VC.label ?_ | refine VC.scope ?_ | refine VO.go (VO.nil ?_) | refine VO.go (VO.ld 0 rfl rfl rfl rfl ?_)))
  refine VC.condF rfl (VC.skip ?_)
  refine VC.seq (VC.region (VO.go (VO.nil ?_)))
  refine VC.seq ?_
  refine VC.meetS (σ := RepM) (fun R => [(7, .pointer (some ⟨p, 0, none⟩)), (9, .int .i64 R.log.length)]) (fun R => [repH p R]) TlI ?_ ?_
  rotate_left
  · intro R T
    (repeat (first | refine VC.seq ?_ | refine VC.region ?_ | refine VC.block ?_ | refine VC.label ?_ | refine VC.scope ?_ | refine VO.go (VO.nil ?_) | refine VO.go (VO.ld 0 rfl rfl rfl rfl ?_)))
    refine VO.go (VO.call (Lc := []) (fun Fr w hF hs hS => log_spec Fr w T.fit.ok (hS.at_ 0 rfl)) rfl rfl ?_)
    rintro _ _ ⟨q, rfl, rfl⟩
    (repeat (first | refine VC.seq ?_ | refine VC.region ?_ | refine VC.block ?_ | refine VC.label ?_ | refine VC.scope ?_ | refine VO.go (VO.nil ?_) | refine VO.go (VO.ld 0 rfl rfl rfl rfl ?_)))
    refine VO.go (VO.callV' (fun Fr w hF hs hS => Lg.len_spec Fr w (hS.at_ 0 rfl)) rfl ?_)
    (repeat (first | refine VC.seq ?_ | refine VC.region ?_ | refine VC.block ?_ | refine VC.label ?_ | refine VC.scope ?_ | refine VO.go (VO.nil ?_) | refine VO.go (VO.ld 0 rfl rfl rfl rfl ?_)))
    refine VO.go (VO.yes 201 true rfl (by simp) ?_)
    (repeat (first | refine VC.seq ?_ | refine VC.region ?_ | refine VC.block ?_ | refine VC.label ?_ | refine VC.scope ?_ | refine VO.go (VO.nil ?_) | refine VO.go (VO.ld 0 rfl rfl rfl rfl ?_) | refine VO.go (VO.offU rfl rfl rfl ?_)))
    refine VO.go (VO.callV (fun Fr w => led_spec Fr w) rfl ?_)
    (repeat (first | refine VC.seq ?_ | refine VC.region ?_ | refine VC.block ?_ | refine VC.label ?_ | refine VC.scope ?_ | refine VO.go (VO.nil ?_) | refine VO.go (VO.ld 0 rfl rfl rfl rfl ?_) | refine VO.go (VO.offU rfl rfl rfl ?_)))
    exact VC.ret (Ret.bool 6 rfl rfl rfl Imp.nil.ent ⟨rfl, rfl⟩)
  (repeat (first | refine VC.seq ?_ | refine VC.region ?_ | refine VC.block ?_ | refine VC.label ?_ | refine VC.scope ?_ | refine VO.go (VO.nil ?_) | refine VO.go (VO.ld 0 rfl rfl rfl rfl ?_)))
  refine VC.loop (σ := Nat × RepM) (fun y => [(1, .slice la l.length lc), (2, .int .u8 turn), (7, .pointer (some ⟨p, 0, none⟩)), (9, .int .i64 y.2.log.length), (10, .int .i64 y.1)]) (fun y => [repH p y.2])
    (fun y => TlI y.2 ∧ y.1 ≤ 2 * l.length ∧ y.2.log.length ≤ y.1) (fun y => 2 * l.length - y.1) (0, R0) ⟨T0, by dsimp only; omega, by dsimp only; rw [g0]; exact Nat.le_refl 0⟩ (Sub.cons rfl (Sub.cons rfl (Sub.cons rfl (Sub.cons (by rw [g0]; rfl) (Sub.cons rfl (Sub.nil _)))))) Ent.refl ?_
  rintro ⟨i, R⟩ ⟨T, hi, hll2⟩
  dsimp only at T hi hll2 ⊢
  (repeat (first | refine VC.seq ?_ | refine VC.region ?_ | refine VC.block ?_ | refine VC.label ?_ | refine VC.scope ?_ | refine VO.go (VO.nil ?_) | refine VO.go (VO.ld 0 rfl rfl rfl rfl ?_)))
  refine VO.go (VO.mul rfl rfl (by omega) (by omega) ?_)
  (repeat (first | refine VC.seq ?_ | refine VC.region ?_ | refine VC.block ?_ | refine VC.label ?_ | refine VC.scope ?_ | refine VO.go (VO.nil ?_) | refine VO.go (VO.ld 0 rfl rfl rfl rfl ?_)))
  refine VC.condP (p := (i : Int) < 2 * (l.length : Int)) rfl (fun h2 => VC.skip ?_) (fun h2 => VC.exit ?_)
  rotate_left
  · exact ⟨R, T, Sub.cons rfl (Sub.cons rfl (Sub.nil _)), Ent.refl⟩
  have hpos : 0 < l.length := by omega
  have hm3 : 0 ≤ (i : Int) % 3 ∧ (i : Int) % 3 ≤ 2 := by omega
  have hmul : 0 ≤ turn * ((i : Int) % 3) ∧ turn * ((i : Int) % 3) ≤ 510 := by
    rcases (show (i : Int) % 3 = 0 ∨ (i : Int) % 3 = 1 ∨ (i : Int) % 3 = 2 by omega) with h | h | h <;> rw [h] <;> omega
  obtain ⟨k, hk, hkl⟩ : ∃ k : Nat, ((i : Int) + turn * ((i : Int) % 3)) % (l.length : Int) = k ∧ k < l.length := by
    have h3 := Int.emod_nonneg ((i : Int) + turn * ((i : Int) % 3)) (show (l.length : Int) ≠ 0 by omega)
    have h4 := Int.emod_lt_of_pos ((i : Int) + turn * ((i : Int) % 3)) (show 0 < (l.length : Int) by omega)
    exact ⟨(((i : Int) + turn * ((i : Int) % 3)) % (l.length : Int)).toNat, by omega, by omega⟩
  obtain ⟨e0, he0⟩ : ∃ e, l[k]? = some e := ⟨_, List.getElem?_eq_getElem hkl⟩
  have heb := hlb e0 (List.mem_of_getElem? he0)
  obtain ⟨mb, mo, hma, ra, rc⟩ := RwIn.rd (X := ⟨Tryz.prog, tab, tabOk, 204, Fr, w⟩) hl he0
  subst hma
  refine VC.seq (VC.block ?_)
  (repeat (first | refine VC.seq ?_ | refine VC.region ?_ | refine VC.block ?_ | refine VC.label ?_ | refine VC.scope ?_ | refine VO.go (VO.nil ?_) | refine VO.go (VO.ld 0 rfl rfl rfl rfl ?_)))
  refine VO.go (VO.light (light_conv turn rfl rfl rfl rfl rfl (i64_small ht0.1 ht0.2)) ?_)
  (repeat (first | refine VC.seq ?_ | refine VC.region ?_ | refine VC.block ?_ | refine VC.label ?_ | refine VC.scope ?_ | refine VO.go (VO.nil ?_) | refine VO.go (VO.ld 0 rfl rfl rfl rfl ?_)))
  refine VO.go (VO.light (light_rem rfl rfl (by omega) (by omega)) ?_)
  refine VO.go (VO.mul rfl rfl (by omega) (by omega) ?_)
  refine VO.go (VO.add rfl rfl (by omega) (by omega) ?_)
  (repeat (first | refine VC.seq ?_ | refine VC.region ?_ | refine VC.block ?_ | refine VC.label ?_ | refine VC.scope ?_ | refine VO.go (VO.nil ?_) | refine VO.go (VO.ld 0 rfl rfl rfl rfl ?_)))
  refine VO.go (VO.light (light_rem rfl rfl (by omega) (by omega)) ?_)
  rw [hk]
  refine VO.go (VO.light (light_idx k rfl rfl rfl rfl rfl rfl hkl) ?_)
  refine VO.go (VO.load rfl rfl (ra _ _ rfl rfl) ?_)
  refine VO.go (VO.alloc rfl fun eb => ?_)
  refine VO.go (VO.stA (vs := entC e0) (cs' := entC e0) 0 rfl rfl rfl rfl (Nat.le_refl _) rfl rfl rfl ?_)
  (repeat (first | refine VC.seq ?_ | refine VC.region ?_ | refine VC.block ?_ | refine VC.label ?_ | refine VC.scope ?_ | refine VO.go (VO.nil ?_) | refine VO.go (VO.ld 0 rfl rfl rfl rfl ?_)))
  by_cases hkey : 100 < e0.op.key.size
  · refine VO.go (VO.yes 59 true rfl (decide_eq_true (by omega)) ?_)
    (repeat (first | refine VC.seq ?_ | refine VC.region ?_ | refine VC.block ?_ | refine VC.label ?_ | refine VC.scope ?_ | refine VO.go (VO.nil ?_) | refine VO.go (VO.ld 0 rfl rfl rfl rfl ?_) | refine VO.go (VO.offU rfl rfl rfl ?_)))
    refine VC.condT rfl ?_
    (repeat (first | refine VC.seq ?_ | refine VC.region ?_ | refine VC.block ?_ | refine VC.label ?_ | refine VC.scope ?_ | refine VO.go (VO.nil ?_) | refine VO.go (VO.ld 0 rfl rfl rfl rfl ?_)))
    refine VO.go (VO.callV (fun Fr w => led_spec Fr w) rfl ?_)
    (repeat (first | refine VC.seq ?_ | refine VC.region ?_ | refine VC.block ?_ | refine VC.label ?_ | refine VC.scope ?_ | refine VO.go (VO.nil ?_) | refine VO.go (VO.ld 0 rfl rfl rfl rfl ?_)))
    exact VC.ret (Ret.bool 6 rfl rfl rfl Imp.nil.ent ⟨rfl, rfl⟩)
  refine VO.go (VO.yes 59 false rfl (decide_eq_false (by omega)) ?_)
  (repeat (first | refine VC.seq ?_ | refine VC.region ?_ | refine VC.block ?_ | refine VC.label ?_ | refine VC.scope ?_ | refine VO.go (VO.nil ?_) | refine VO.go (VO.ld 0 rfl rfl rfl rfl ?_) | refine VO.go (VO.offU rfl rfl rfl ?_)))
  refine VC.condP rfl (fun h3 => ?_) (fun h3 => VC.skip ?_)
  · (repeat (first | refine VC.seq ?_ | refine VC.region ?_ | refine VC.block ?_ | refine VC.label ?_ | refine VC.scope ?_ | refine VO.go (VO.nil ?_) | refine VO.go (VO.ld 0 rfl rfl rfl rfl ?_)))
    refine VO.go (VO.callV (fun Fr w => led_spec Fr w) rfl ?_)
    (repeat (first | refine VC.seq ?_ | refine VC.region ?_ | refine VC.block ?_ | refine VC.label ?_ | refine VC.scope ?_ | refine VO.go (VO.nil ?_) | refine VO.go (VO.ld 0 rfl rfl rfl rfl ?_)))
    exact VC.ret (Ret.bool 6 rfl rfl rfl Imp.nil.ent ⟨rfl, rfl⟩)
  refine VC.seq ?_
  refine VC.meetS (σ := EntryM) (fun _ => [(1, .slice (some ⟨mb, mo, none⟩) l.length lc), (2, .int .u8 turn), (7, .pointer (some ⟨p, 0, none⟩)), (9, .int .i64 R.log.length), (10, .int .i64 i), (11, .pointer (some ⟨eb, 0, none⟩))]) (fun e => [repH p R, pt eb (entC e) entT])
    (fun e => -9223372036854775808 ≤ e.index ∧ e.index ≤ 9223372036854775807) ?_ ?_
  · (repeat (first | refine VC.seq ?_ | refine VC.region ?_ | refine VC.block ?_ | refine VC.label ?_ | refine VC.scope ?_ | refine VO.go (VO.nil ?_) | refine VO.go (VO.ld 0 rfl rfl rfl rfl ?_)))
    refine VO.go (VO.light (light_rem rfl rfl (by omega) (by omega)) ?_)
    (repeat (first | refine VC.seq ?_ | refine VC.region ?_ | refine VC.block ?_ | refine VC.label ?_ | refine VC.scope ?_ | refine VO.go (VO.nil ?_) | refine VO.go (VO.ld 0 rfl rfl rfl rfl ?_)))
    refine VC.cond rfl (fun h4 => ?_) (fun h4 => VC.skip ?_)
    rotate_left
    · exact ⟨e0, heb, Sub.cons rfl (Sub.cons rfl (Sub.cons rfl (Sub.cons rfl (Sub.cons rfl (Sub.cons rfl (Sub.nil _)))))), (Imp.pick 1 rfl (Imp.pick 0 rfl Imp.nil)).ent⟩
    (repeat (first | refine VC.seq ?_ | refine VC.region ?_ | refine VC.block ?_ | refine VC.label ?_ | refine VC.scope ?_ | refine VO.go (VO.nil ?_) | refine VO.go (VO.ld 0 rfl rfl rfl rfl ?_)))
    refine VO.go (VO.call (Lc := []) (fun Fr w hF hs hS => log_spec Fr w T.fit.ok (hS.at_ 1 rfl)) rfl rfl ?_)
    rintro _ _ ⟨q, rfl, rfl⟩
    refine VO.go (VO.callV' (fun Fr w hF hs hS => Lg.len_spec Fr w (hS.at_ 0 rfl)) rfl ?_)
    refine VO.go (VO.add rfl rfl (by omega) (by omega) ?_)
    (repeat (first | refine VC.seq ?_ | refine VC.region ?_ | refine VC.block ?_ | refine VC.label ?_ | refine VC.scope ?_ | refine VO.go (VO.nil ?_) | refine VO.go (VO.ld 0 rfl rfl rfl rfl ?_)))
    refine VO.go (VO.st 1 (cs' := entC { e0 with index := (R.log.length : Int) + 1 }) rfl rfl rfl rfl (by show 0 < 7; omega) rfl rfl ?_)
    (repeat (first | refine VC.seq ?_ | refine VC.region ?_ | refine VC.block ?_ | refine VC.label ?_ | refine VC.scope ?_ | refine VO.go (VO.nil ?_) | refine VO.go (VO.ld 0 rfl rfl rfl rfl ?_)))
    exact ⟨{ e0 with index := (R.log.length : Int) + 1 }, by dsimp only; omega, Sub.cons rfl (Sub.cons rfl (Sub.cons rfl (Sub.cons rfl (Sub.cons rfl (Sub.cons rfl (Sub.nil _)))))), (Imp.pick 2 rfl (Imp.pick 1 rfl Imp.nil)).ent⟩
  intro e hei
  (repeat (first | refine VC.seq ?_ | refine VC.region ?_ | refine VC.block ?_ | refine VC.label ?_ | refine VC.scope ?_ | refine VO.go (VO.nil ?_) | refine VO.go (VO.ld 0 rfl rfl rfl rfl ?_)))
  refine VO.go (VO.call (Lc := []) (fun Fr w hF hs hS => log_spec Fr w T.fit.ok (hS.at_ 0 rfl)) rfl rfl ?_)
  rintro _ _ ⟨q, rfl, rfl⟩
  refine VO.go (VO.callV' (fun Fr w hF hs hS => Lg.len_spec Fr w (hS.at_ 0 rfl)) rfl ?_)
  refine VO.ent (L' := [repH p R, pt eb (entC e) entT]) (Imp.pick 1 rfl (Imp.pick 1 rfl Imp.nil)).ent ?_
  (repeat (first | refine VC.seq ?_ | refine VC.region ?_ | refine VC.block ?_ | refine VC.label ?_ | refine VC.scope ?_ | refine VO.go (VO.nil ?_) | refine VO.go (VO.ld 0 rfl rfl rfl rfl ?_)))
  refine VO.go (VO.ldA 1 (entC e) rfl rfl rfl rfl ?_)
  refine VO.go (VO.light (light_build (pv := [(0, .int .i64 4), (1, .int .i64 1), (10, .agg (entC e).toArray)]) (fgC (fwdE e) mem0) rfl rfl rfl (by kernel_rfl) rfl) ?_)
  refine VO.go (VO.call (Lc := [repH p R]) (fun Fr w _ _ _ => take0_spec Fr w T.fit (by rw [T.rlast]; decide) 0 (fwdE e) 0 hei.1 hei.2) rfl rfl ?_)
  rintro _ _ ⟨sa, sc, rfl, rfl⟩
  rcases tl_step T e with ⟨hR, g, hS⟩ | ⟨T2, hlog, hidx, hc0, hc1, g, hS⟩
  · rw [hR, hS]
    refine VO.opn 1 rfl (HOpn.row sndT sa sc [(0, ackF 1 R.log.length g R.log.length)] (by simp)) ?_
    rintro ⟨sb, sr⟩ rfl
    show VO _ _ _ _ _ [pt sb (flat sndC [(0, ackF 1 R.log.length g R.log.length)] ++ sr) sndT, repH p R, pt eb (entC e) entT] _
    have hQl : R.log.length = R.log.length := rfl
    have hnow : (R.log.length : Int) = R.log.length := rfl
    have hdn : R.win.done = (R.log.length : Int) := by rw [T.done, T.fit.ok.last, hnow]
    (repeat (first | refine VC.seq ?_ | refine VC.region ?_ | refine VC.block ?_ | refine VC.label ?_ | refine VC.scope ?_ | refine VO.go (VO.nil ?_) | refine VO.go (VO.ld 0 rfl rfl rfl rfl ?_)))
    refine VO.go (VO.call (Lc := []) (fun Fr w hF hs hS => log_spec Fr w T.fit.ok (hS.at_ 1 rfl)) rfl rfl ?_)
    rintro _ _ ⟨q2, rfl, rfl⟩
    refine VO.go (VO.callV' (fun Fr w hF hs hS => Lg.len_spec Fr w (hS.at_ 0 rfl)) rfl ?_)
    rw [hnow]
    refine VO.ent (L' := [pt sb (flat sndC [(0, ackF 1 R.log.length g R.log.length)] ++ sr) sndT, repH p R, pt eb (entC e) entT]) (Imp.pick 1 rfl (Imp.pick 1 rfl (Imp.pick 1 rfl Imp.nil))).ent ?_
    (repeat (first | refine VC.seq ?_ | refine VC.region ?_ | refine VC.block ?_ | refine VC.label ?_ | refine VC.scope ?_ | refine VO.go (VO.nil ?_) | refine VO.go (VO.ld 0 rfl rfl rfl rfl ?_)))
    refine VO.go (VO.yes 88 false rfl (decide_eq_false (by omega)) ?_)
    (repeat (first | refine VC.seq ?_ | refine VC.region ?_ | refine VC.block ?_ | refine VC.label ?_ | refine VC.scope ?_ | refine VO.go (VO.nil ?_) | refine VO.go (VO.ld 0 rfl rfl rfl rfl ?_) | refine VO.go (VO.offU rfl rfl rfl ?_)))
    refine VO.go (VO.add rfl rfl (by omega) (by omega) ?_)
    (repeat (first | refine VC.seq ?_ | refine VC.region ?_ | refine VC.block ?_ | refine VC.label ?_ | refine VC.scope ?_ | refine VO.go (VO.nil ?_) | refine VO.go (VO.ld 0 rfl rfl rfl rfl ?_) | refine VO.go (VO.offU rfl rfl rfl ?_)))
    refine VO.go (VO.yes 94 false rfl (decide_eq_false (by omega)) ?_)
    (repeat (first | refine VC.seq ?_ | refine VC.region ?_ | refine VC.block ?_ | refine VC.label ?_ | refine VC.scope ?_ | refine VO.go (VO.nil ?_) | refine VO.go (VO.ld 0 rfl rfl rfl rfl ?_) | refine VO.go (VO.offU rfl rfl rfl ?_)))
    refine VO.go (VO.call (Lc := []) (fun Fr w hF hs hS => window_spec Fr w T.fit.ok (hS.at_ 1 rfl)) rfl rfl ?_)
    rintro _ _ ⟨wq, rfl, rfl⟩
    (repeat (first | refine VC.seq ?_ | refine VC.region ?_ | refine VC.block ?_ | refine VC.label ?_ | refine VC.scope ?_ | refine VO.go (VO.nil ?_) | refine VO.go (VO.ld 0 rfl rfl rfl rfl ?_) | refine VO.go (VO.offU rfl rfl rfl ?_)))
    refine VO.go (VO.callV' (fun Fr w hF hs hS => Win.done_spec Fr w (hS.blk 0 rfl) T.fit.ok.win.cap0) rfl ?_)
    rw [hdn]
    refine VO.ent (L' := [pt sb (flat sndC [(0, ackF 1 R.log.length g R.log.length)] ++ sr) sndT, repH p R, pt eb (entC e) entT]) (Imp.pick 1 rfl (Imp.pick 1 rfl (Imp.pick 1 rfl Imp.nil))).ent ?_
    (repeat (first | refine VC.seq ?_ | refine VC.region ?_ | refine VC.block ?_ | refine VC.label ?_ | refine VC.scope ?_ | refine VO.go (VO.nil ?_) | refine VO.go (VO.ld 0 rfl rfl rfl rfl ?_) | refine VO.go (VO.offU rfl rfl rfl ?_)))
    refine VO.go (VO.yes 101 false rfl (by simp) ?_)
    (repeat (first | refine VC.seq ?_ | refine VC.region ?_ | refine VC.block ?_ | refine VC.label ?_ | refine VC.scope ?_ | refine VO.go (VO.nil ?_) | refine VO.go (VO.ld 0 rfl rfl rfl rfl ?_) | refine VO.go (VO.offU rfl rfl rfl ?_)))
    refine VO.go (VO.sub' rfl rfl (by omega) (by omega) ?_)
    refine VO.go (VO.add rfl rfl (by omega) (by omega) ?_)
    (repeat (first | refine VC.seq ?_ | refine VC.region ?_ | refine VC.block ?_ | refine VC.label ?_ | refine VC.scope ?_ | refine VO.go (VO.nil ?_) | refine VO.go (VO.ld 0 rfl rfl rfl rfl ?_) | refine VO.go (VO.offU rfl rfl rfl ?_)))
    refine VO.go (VO.yes 110 false rfl (by rw [bne_eq_false_iff_eq]; show ((1 : Nat) : Int) = _; omega) ?_)
    (repeat (first | refine VC.seq ?_ | refine VC.region ?_ | refine VC.block ?_ | refine VC.label ?_ | refine VC.scope ?_ | refine VO.go (VO.nil ?_) | refine VO.go (VO.ld 0 rfl rfl rfl rfl ?_) | refine VO.go (VO.offU rfl rfl rfl ?_)))
    refine VO.go (VO.sub' rfl rfl (by show -9223372036854775808 ≤ ((1 : Nat) : Int) - 1; omega) (by show ((1 : Nat) : Int) - 1 ≤ 9223372036854775807; omega) ?_)
    refine VO.go (VO.light (light_idx 0 rfl rfl rfl rfl rfl rfl (by show 0 < 1; omega)) ?_)
    (repeat (first | refine VC.seq ?_ | refine VC.region ?_ | refine VC.block ?_ | refine VC.label ?_ | refine VC.scope ?_ | refine VO.go (VO.nil ?_) | refine VO.go (VO.ld 0 rfl rfl rfl rfl ?_) | refine VO.go (VO.offU rfl rfl rfl ?_)))
    refine VO.go (VO.yes 121 false rfl rfl ?_)
    (repeat (first | refine VC.seq ?_ | refine VC.region ?_ | refine VC.block ?_ | refine VC.label ?_ | refine VC.scope ?_ | refine VO.go (VO.nil ?_) | refine VO.go (VO.ld 0 rfl rfl rfl rfl ?_) | refine VO.go (VO.offU rfl rfl rfl ?_)))
    refine VO.go (VO.sub' rfl rfl (by show -9223372036854775808 ≤ ((1 : Nat) : Int) - 1; omega) (by show ((1 : Nat) : Int) - 1 ≤ 9223372036854775807; omega) ?_)
    refine VO.go (VO.light (light_idx 0 rfl rfl rfl rfl rfl rfl (by show 0 < 1; omega)) ?_)
    (repeat (first | refine VC.seq ?_ | refine VC.region ?_ | refine VC.block ?_ | refine VC.label ?_ | refine VC.scope ?_ | refine VO.go (VO.nil ?_) | refine VO.go (VO.ld 0 rfl rfl rfl rfl ?_) | refine VO.go (VO.offU rfl rfl rfl ?_)))
    refine VO.go (VO.yes 131 false rfl rfl ?_)
    (repeat (first | refine VC.seq ?_ | refine VC.region ?_ | refine VC.block ?_ | refine VC.label ?_ | refine VC.scope ?_ | refine VO.go (VO.nil ?_) | refine VO.go (VO.ld 0 rfl rfl rfl rfl ?_) | refine VO.go (VO.offU rfl rfl rfl ?_)))
    refine VO.go (VO.sub' rfl rfl (by show -9223372036854775808 ≤ ((1 : Nat) : Int) - 1; omega) (by show ((1 : Nat) : Int) - 1 ≤ 9223372036854775807; omega) ?_)
    refine VO.go (VO.light (light_idx 0 rfl rfl rfl rfl rfl rfl (by show 0 < 1; omega)) ?_)
    (repeat (first | refine VC.seq ?_ | refine VC.region ?_ | refine VC.block ?_ | refine VC.label ?_ | refine VC.scope ?_ | refine VO.go (VO.nil ?_) | refine VO.go (VO.ld 0 rfl rfl rfl rfl ?_) | refine VO.go (VO.offU rfl rfl rfl ?_)))
    refine VC.condNE (i := (R.log.length : Int)) (j := (R.log.length : Int)) rfl (fun h => absurd rfl h) (fun _ => VC.skip ?_)
    (repeat (first | refine VC.seq ?_ | refine VC.region ?_ | refine VC.block ?_ | refine VC.label ?_ | refine VC.scope ?_ | refine VO.go (VO.nil ?_) | refine VO.go (VO.ld 0 rfl rfl rfl rfl ?_)))
    refine VC.condP rfl (fun h => by omega) (fun _ => VC.skip ?_)
    (repeat (first | refine VC.seq ?_ | refine VC.region ?_ | refine VC.block ?_ | refine VC.label ?_ | refine VC.scope ?_ | refine VO.go (VO.nil ?_) | refine VO.go (VO.ld 0 rfl rfl rfl rfl ?_)))
    refine VO.go (VO.add rfl rfl (by omega) (by omega) ?_)
    (repeat (first | refine VC.seq ?_ | refine VC.region ?_ | refine VC.block ?_ | refine VC.label ?_ | refine VC.scope ?_ | refine VO.go (VO.nil ?_) | refine VO.go (VO.ld 0 rfl rfl rfl rfl ?_)))
    exact ⟨(i + 1, R), ⟨T, by dsimp only; omega, by dsimp only; omega⟩, by dsimp only; omega, Sub.cons rfl (Sub.cons rfl (Sub.cons rfl (Sub.cons rfl (Sub.cons rfl (Sub.nil _))))), (Imp.pick 1 rfl Imp.nil).ent⟩
  · rw [hS]
    generalize (takeR R 0 (fwdE e) [] 0).1 = Q at T2 hlog
    refine VO.opn 1 rfl (HOpn.row sndT sa sc [(32 + e.client, replyF e.client e.seq 0 (tlRes R.log e)), (0, ackF 1 ((R.log.length : Int) + 1) g ((R.log.length : Int) + 1))] (by simp)) ?_
    rintro ⟨sb, sr⟩ rfl
    show VO _ _ _ _ _ [pt sb (flat sndC [(32 + e.client, replyF e.client e.seq 0 (tlRes R.log e)), (0, ackF 1 ((R.log.length : Int) + 1) g ((R.log.length : Int) + 1))] ++ sr) sndT, repH p Q, pt eb (entC e) entT] _
    have hnow : (Q.log.length : Int) = (R.log.length : Int) + 1 := by rw [hlog, List.length_append]; simp
    have hdn : Q.win.done = ((R.log.length : Int) + 1) := by rw [T2.done, T2.fit.ok.last, hnow]
    (repeat (first | refine VC.seq ?_ | refine VC.region ?_ | refine VC.block ?_ | refine VC.label ?_ | refine VC.scope ?_ | refine VO.go (VO.nil ?_) | refine VO.go (VO.ld 0 rfl rfl rfl rfl ?_)))
    refine VO.go (VO.call (Lc := []) (fun Fr w hF hs hS => log_spec Fr w T2.fit.ok (hS.at_ 1 rfl)) rfl rfl ?_)
    rintro _ _ ⟨q2, rfl, rfl⟩
    refine VO.go (VO.callV' (fun Fr w hF hs hS => Lg.len_spec Fr w (hS.at_ 0 rfl)) rfl ?_)
    rw [hnow]
    refine VO.ent (L' := [pt sb (flat sndC [(32 + e.client, replyF e.client e.seq 0 (tlRes R.log e)), (0, ackF 1 ((R.log.length : Int) + 1) g ((R.log.length : Int) + 1))] ++ sr) sndT, repH p Q, pt eb (entC e) entT]) (Imp.pick 1 rfl (Imp.pick 1 rfl (Imp.pick 1 rfl Imp.nil))).ent ?_
    (repeat (first | refine VC.seq ?_ | refine VC.region ?_ | refine VC.block ?_ | refine VC.label ?_ | refine VC.scope ?_ | refine VO.go (VO.nil ?_) | refine VO.go (VO.ld 0 rfl rfl rfl rfl ?_)))
    refine VO.go (VO.yes 88 false rfl (decide_eq_false (by omega)) ?_)
    (repeat (first | refine VC.seq ?_ | refine VC.region ?_ | refine VC.block ?_ | refine VC.label ?_ | refine VC.scope ?_ | refine VO.go (VO.nil ?_) | refine VO.go (VO.ld 0 rfl rfl rfl rfl ?_) | refine VO.go (VO.offU rfl rfl rfl ?_)))
    refine VO.go (VO.add rfl rfl (by omega) (by omega) ?_)
    (repeat (first | refine VC.seq ?_ | refine VC.region ?_ | refine VC.block ?_ | refine VC.label ?_ | refine VC.scope ?_ | refine VO.go (VO.nil ?_) | refine VO.go (VO.ld 0 rfl rfl rfl rfl ?_) | refine VO.go (VO.offU rfl rfl rfl ?_)))
    refine VO.go (VO.yes 94 false rfl (decide_eq_false (by omega)) ?_)
    (repeat (first | refine VC.seq ?_ | refine VC.region ?_ | refine VC.block ?_ | refine VC.label ?_ | refine VC.scope ?_ | refine VO.go (VO.nil ?_) | refine VO.go (VO.ld 0 rfl rfl rfl rfl ?_) | refine VO.go (VO.offU rfl rfl rfl ?_)))
    refine VO.go (VO.call (Lc := []) (fun Fr w hF hs hS => window_spec Fr w T2.fit.ok (hS.at_ 1 rfl)) rfl rfl ?_)
    rintro _ _ ⟨wq, rfl, rfl⟩
    (repeat (first | refine VC.seq ?_ | refine VC.region ?_ | refine VC.block ?_ | refine VC.label ?_ | refine VC.scope ?_ | refine VO.go (VO.nil ?_) | refine VO.go (VO.ld 0 rfl rfl rfl rfl ?_) | refine VO.go (VO.offU rfl rfl rfl ?_)))
    refine VO.go (VO.callV' (fun Fr w hF hs hS => Win.done_spec Fr w (hS.blk 0 rfl) T2.fit.ok.win.cap0) rfl ?_)
    rw [hdn]
    refine VO.ent (L' := [pt sb (flat sndC [(32 + e.client, replyF e.client e.seq 0 (tlRes R.log e)), (0, ackF 1 ((R.log.length : Int) + 1) g ((R.log.length : Int) + 1))] ++ sr) sndT, repH p Q, pt eb (entC e) entT]) (Imp.pick 1 rfl (Imp.pick 1 rfl (Imp.pick 1 rfl Imp.nil))).ent ?_
    (repeat (first | refine VC.seq ?_ | refine VC.region ?_ | refine VC.block ?_ | refine VC.label ?_ | refine VC.scope ?_ | refine VO.go (VO.nil ?_) | refine VO.go (VO.ld 0 rfl rfl rfl rfl ?_) | refine VO.go (VO.offU rfl rfl rfl ?_)))
    refine VO.go (VO.yes 101 false rfl (by simp) ?_)
    (repeat (first | refine VC.seq ?_ | refine VC.region ?_ | refine VC.block ?_ | refine VC.label ?_ | refine VC.scope ?_ | refine VO.go (VO.nil ?_) | refine VO.go (VO.ld 0 rfl rfl rfl rfl ?_) | refine VO.go (VO.offU rfl rfl rfl ?_)))
    refine VO.go (VO.sub' rfl rfl (by omega) (by omega) ?_)
    refine VO.go (VO.add rfl rfl (by omega) (by omega) ?_)
    (repeat (first | refine VC.seq ?_ | refine VC.region ?_ | refine VC.block ?_ | refine VC.label ?_ | refine VC.scope ?_ | refine VO.go (VO.nil ?_) | refine VO.go (VO.ld 0 rfl rfl rfl rfl ?_) | refine VO.go (VO.offU rfl rfl rfl ?_)))
    refine VO.go (VO.yes 110 false rfl (by rw [bne_eq_false_iff_eq]; show ((2 : Nat) : Int) = _; omega) ?_)
    (repeat (first | refine VC.seq ?_ | refine VC.region ?_ | refine VC.block ?_ | refine VC.label ?_ | refine VC.scope ?_ | refine VO.go (VO.nil ?_) | refine VO.go (VO.ld 0 rfl rfl rfl rfl ?_) | refine VO.go (VO.offU rfl rfl rfl ?_)))
    refine VO.go (VO.sub' rfl rfl (by show -9223372036854775808 ≤ ((2 : Nat) : Int) - 1; omega) (by show ((2 : Nat) : Int) - 1 ≤ 9223372036854775807; omega) ?_)
    refine VO.go (VO.light (light_idx 1 rfl rfl rfl rfl rfl rfl (by show 1 < 2; omega)) ?_)
    (repeat (first | refine VC.seq ?_ | refine VC.region ?_ | refine VC.block ?_ | refine VC.label ?_ | refine VC.scope ?_ | refine VO.go (VO.nil ?_) | refine VO.go (VO.ld 0 rfl rfl rfl rfl ?_) | refine VO.go (VO.offU rfl rfl rfl ?_)))
    refine VO.go (VO.yes 121 false rfl rfl ?_)
    (repeat (first | refine VC.seq ?_ | refine VC.region ?_ | refine VC.block ?_ | refine VC.label ?_ | refine VC.scope ?_ | refine VO.go (VO.nil ?_) | refine VO.go (VO.ld 0 rfl rfl rfl rfl ?_) | refine VO.go (VO.offU rfl rfl rfl ?_)))
    refine VO.go (VO.sub' rfl rfl (by show -9223372036854775808 ≤ ((2 : Nat) : Int) - 1; omega) (by show ((2 : Nat) : Int) - 1 ≤ 9223372036854775807; omega) ?_)
    refine VO.go (VO.light (light_idx 1 rfl rfl rfl rfl rfl rfl (by show 1 < 2; omega)) ?_)
    (repeat (first | refine VC.seq ?_ | refine VC.region ?_ | refine VC.block ?_ | refine VC.label ?_ | refine VC.scope ?_ | refine VO.go (VO.nil ?_) | refine VO.go (VO.ld 0 rfl rfl rfl rfl ?_) | refine VO.go (VO.offU rfl rfl rfl ?_)))
    refine VO.go (VO.yes 131 false rfl rfl ?_)
    (repeat (first | refine VC.seq ?_ | refine VC.region ?_ | refine VC.block ?_ | refine VC.label ?_ | refine VC.scope ?_ | refine VO.go (VO.nil ?_) | refine VO.go (VO.ld 0 rfl rfl rfl rfl ?_) | refine VO.go (VO.offU rfl rfl rfl ?_)))
    refine VO.go (VO.sub' rfl rfl (by show -9223372036854775808 ≤ ((2 : Nat) : Int) - 1; omega) (by show ((2 : Nat) : Int) - 1 ≤ 9223372036854775807; omega) ?_)
    refine VO.go (VO.light (light_idx 1 rfl rfl rfl rfl rfl rfl (by show 1 < 2; omega)) ?_)
    (repeat (first | refine VC.seq ?_ | refine VC.region ?_ | refine VC.block ?_ | refine VC.label ?_ | refine VC.scope ?_ | refine VO.go (VO.nil ?_) | refine VO.go (VO.ld 0 rfl rfl rfl rfl ?_) | refine VO.go (VO.offU rfl rfl rfl ?_)))
    refine VC.condNE (i := ((R.log.length : Int) + 1)) (j := ((R.log.length : Int) + 1)) rfl (fun h => absurd rfl h) (fun _ => VC.skip ?_)
    (repeat (first | refine VC.seq ?_ | refine VC.region ?_ | refine VC.block ?_ | refine VC.label ?_ | refine VC.scope ?_ | refine VO.go (VO.nil ?_) | refine VO.go (VO.ld 0 rfl rfl rfl rfl ?_)))
    refine VC.condP rfl (fun _ => ?_) (fun h => by omega)
    (repeat (first | refine VC.seq ?_ | refine VC.region ?_ | refine VC.block ?_ | refine VC.label ?_ | refine VC.scope ?_ | refine VO.go (VO.nil ?_) | refine VO.go (VO.ld 0 rfl rfl rfl rfl ?_)))
    refine VO.go (VO.call (Lc := []) (fun Fr w hF hs hS => log_spec Fr w T2.fit.ok (hS.at_ 1 rfl)) rfl rfl ?_)
    rintro _ _ ⟨q3, rfl, rfl⟩
    (repeat (first | refine VC.seq ?_ | refine VC.region ?_ | refine VC.block ?_ | refine VC.label ?_ | refine VC.scope ?_ | refine VO.go (VO.nil ?_) | refine VO.go (VO.ld 0 rfl rfl rfl rfl ?_)))
    refine VO.go (VO.callV' (fun Fr w hF hs hS => Lg.result_spec Fr w (hS.at_ 0 rfl) ((R.log.length : Int) + 1) (by omega) (by omega)) rfl ?_)
    rw [hlog, show (atI (logRun (R.log ++ [e])).2 ((R.log.length : Int) + 1)).getD resZ = tlRes R.log e from rfl]
    (repeat (first | refine VC.seq ?_ | refine VC.region ?_ | refine VC.block ?_ | refine VC.label ?_ | refine VC.scope ?_ | refine VO.go (VO.nil ?_) | refine VO.go (VO.ld 0 rfl rfl rfl rfl ?_)))
    refine VO.go (VO.alloc rfl fun yb => ?_)
    refine VO.go (VO.stA (vs := resC (tlRes R.log e)) (cs' := resC (tlRes R.log e)) 0 rfl rfl rfl rfl (Nat.le_refl _) rfl rfl rfl ?_)
    refine VO.go (VO.nil ?_)
    refine VC.ent (L' := [pt yb (resC (tlRes R.log e)) 42, pt sb (flat sndC [(32 + e.client, replyF e.client e.seq 0 (tlRes R.log e)), (0, ackF 1 ((R.log.length : Int) + 1) g ((R.log.length : Int) + 1))] ++ sr) sndT, pt eb (entC e) entT, repH p Q]) (Imp.pick 0 rfl (Imp.pick 1 rfl (Imp.pick 2 rfl (Imp.pick 1 rfl Imp.nil)))).ent ?_
    refine VC.seq ?_
    refine VC.seq ?_
    refine VC.draw (ts 0 41 .nil) (by kernel_rfl) (by decide +kernel) ?_
    (repeat (first | refine VA.go (VA.nil ?_) | refine VA.go (VA.ld 0 rfl rfl rfl rfl rfl ?_) | refine VA.go (VA.ld 1 rfl rfl rfl rfl rfl ?_) | refine VA.go (VA.ld 2 rfl rfl rfl rfl rfl ?_)))
    refine VA.go (VA.light rfl (light_idx 0 rfl rfl rfl rfl rfl (by omega) (by show 0 < 2; omega)) ?_)
    (repeat (first | refine VA.go (VA.nil ?_) | refine VA.go (VA.ld 0 rfl rfl rfl rfl rfl ?_) | refine VA.go (VA.ld 1 rfl rfl rfl rfl rfl ?_) | refine VA.go (VA.ld 2 rfl rfl rfl rfl rfl ?_)))
    refine VA.go (VA.add rfl rfl rfl (by omega) (by omega) ?_)
    (repeat (first | refine VA.go (VA.nil ?_) | refine VA.go (VA.ld 0 rfl rfl rfl rfl rfl ?_) | refine VA.go (VA.ld 1 rfl rfl rfl rfl rfl ?_) | refine VA.go (VA.ld 2 rfl rfl rfl rfl rfl ?_)))
    refine VA.go (VA.yes 161 false rfl (by show ((32 + e.client) != (32 + e.client)) = false; simp) ?_)
    (repeat (first | refine VA.go (VA.nil ?_) | refine VA.go (VA.ld 0 rfl rfl rfl rfl rfl ?_) | refine VA.go (VA.ld 1 rfl rfl rfl rfl rfl ?_) | refine VA.go (VA.ld 2 rfl rfl rfl rfl rfl ?_) | refine VA.go (VA.offU rfl rfl rfl rfl ?_)))
    refine VA.go (VA.light rfl (light_idx 0 rfl rfl rfl rfl rfl (by omega) (by show 0 < 2; omega)) ?_)
    (repeat (first | refine VA.go (VA.nil ?_) | refine VA.go (VA.ld 0 rfl rfl rfl rfl rfl ?_) | refine VA.go (VA.ld 1 rfl rfl rfl rfl rfl ?_) | refine VA.go (VA.ld 2 rfl rfl rfl rfl rfl ?_) | refine VA.go (VA.offU rfl rfl rfl rfl ?_)))
    refine VA.go (VA.yes 169 false rfl rfl ?_)
    (repeat (first | refine VA.go (VA.nil ?_) | refine VA.go (VA.ld 0 rfl rfl rfl rfl rfl ?_) | refine VA.go (VA.ld 1 rfl rfl rfl rfl rfl ?_) | refine VA.go (VA.ld 2 rfl rfl rfl rfl rfl ?_) | refine VA.go (VA.offU rfl rfl rfl rfl ?_)))
    refine VA.go (VA.light rfl (light_idx 0 rfl rfl rfl rfl rfl (by omega) (by show 0 < 2; omega)) ?_)
    (repeat (first | refine VA.go (VA.nil ?_) | refine VA.go (VA.ld 0 rfl rfl rfl rfl rfl ?_) | refine VA.go (VA.ld 1 rfl rfl rfl rfl rfl ?_) | refine VA.go (VA.ld 2 rfl rfl rfl rfl rfl ?_) | refine VA.go (VA.offU rfl rfl rfl rfl ?_)))
    refine VA.go (VA.yes 179 false rfl (by show (e.seq != e.seq) = false; simp) ?_)
    (repeat (first | refine VA.go (VA.nil ?_) | refine VA.go (VA.ld 0 rfl rfl rfl rfl rfl ?_) | refine VA.go (VA.ld 1 rfl rfl rfl rfl rfl ?_) | refine VA.go (VA.ld 2 rfl rfl rfl rfl rfl ?_) | refine VA.go (VA.offU rfl rfl rfl rfl ?_)))
    refine VA.go (VA.light rfl (light_idx 0 rfl rfl rfl rfl rfl (by omega) (by show 0 < 2; omega)) ?_)
    (repeat (first | refine VA.go (VA.nil ?_) | refine VA.go (VA.ld 0 rfl rfl rfl rfl rfl ?_) | refine VA.go (VA.ld 1 rfl rfl rfl rfl rfl ?_) | refine VA.go (VA.ld 2 rfl rfl rfl rfl rfl ?_) | refine VA.go (VA.offU rfl rfl rfl rfl ?_)))
    refine VA.go (VA.ldA 1 (resC (tlRes R.log e)) rfl rfl rfl rfl rfl ?_)
    refine VA.go (VA.ldA 0 (resC (tlRes R.log e)) rfl rfl rfl rfl rfl ?_)
    refine VA.go (VA.light rfl (light_neS guardRes rfl rfl (res_eq _ _)) ?_)
    (repeat (first | refine VA.go (VA.nil ?_) | refine VA.go (VA.ld 0 rfl rfl rfl rfl rfl ?_) | refine VA.go (VA.ld 1 rfl rfl rfl rfl rfl ?_) | refine VA.go (VA.ld 2 rfl rfl rfl rfl rfl ?_) | refine VA.go (VA.offU rfl rfl rfl rfl ?_)))
    refine VA.go (VA.yes 188 false rfl (by rw [resEq_rfl]; rfl) ?_)
    (repeat (first | refine VA.go (VA.nil ?_) | refine VA.go (VA.ld 0 rfl rfl rfl rfl rfl ?_) | refine VA.go (VA.ld 1 rfl rfl rfl rfl rfl ?_) | refine VA.go (VA.ld 2 rfl rfl rfl rfl rfl ?_) | refine VA.go (VA.offU rfl rfl rfl rfl ?_)))
    refine VC.condNE (i := e.index) (j := (R.log.length : Int) + 1) rfl (fun h => absurd hidx h) (fun _ => VC.skip ?_)
    (repeat (first | refine VC.seq ?_ | refine VC.region ?_ | refine VC.block ?_ | refine VC.label ?_ | refine VC.scope ?_ | refine VO.go (VO.nil ?_) | refine VO.go (VO.ld 0 rfl rfl rfl rfl ?_)))
    refine VO.go (VO.add rfl rfl (by omega) (by omega) ?_)
    (repeat (first | refine VC.seq ?_ | refine VC.region ?_ | refine VC.block ?_ | refine VC.label ?_ | refine VC.scope ?_ | refine VO.go (VO.nil ?_) | refine VO.go (VO.ld 0 rfl rfl rfl rfl ?_)))
    refine VO.go (VO.add rfl rfl (by omega) (by omega) ?_)
    (repeat (first | refine VC.seq ?_ | refine VC.region ?_ | refine VC.block ?_ | refine VC.label ?_ | refine VC.scope ?_ | refine VO.go (VO.nil ?_) | refine VO.go (VO.ld 0 rfl rfl rfl rfl ?_)))
    exact ⟨(i + 1, Q), ⟨T2, by dsimp only; omega, by dsimp only; omega⟩, by dsimp only; omega, Sub.cons rfl (Sub.cons rfl (Sub.cons rfl (Sub.cons (by dsimp only; rw [hnow]; rfl) (Sub.cons rfl (Sub.nil _))))), (Imp.pick 3 rfl Imp.nil).ent⟩
end Go.Proofs.YtbbnmgakmcppdaaGreat.Rep
namespace Go.Proofs.YtbbnmgakmcppdaaGreat.Rep
open Go Go.Proofs.YtbbnmgakmcppdaaGreat.Vg Go.ChangeShapes Go.WideShapes Go.ChangeAt Go.RowKit Go.Proofs.YtbbnmgakmcppdaaGreat.Sched Go.Proofs.YtbbnmgakmcppdaaGreat.Conf Go.Proofs.YtbbnmgakmcppdaaGreat.Adm

set_option maxRecDepth 100000 in
theorem open_u8 {H : Type} {enc : TypeId × Value → H} {w : World} {base base0 : Nat} {spare : Nat → Bool} {held : Bool} {v : Value} {d : DataW H} {ps : List MemPlace} (hval : Value.okWide Tryz.prog w .any base0 5 v) (h : DataW.Trod enc Tryz.prog w base spare held 5 v d ps) :
    ∃ n, v = .int .u8 n ∧ 0 ≤ n ∧ n ≤ 255 := by
  obtain ⟨n, rfl⟩ := okWide_int Tryz.underlying5 hval
  obtain ⟨fuel, hf⟩ := h
  obtain ⟨m, e, _, hw⟩ := DataW.trod_int Tryz.underlying5 hf
  have e2 : Value.int .u8 n = .int .u8 m := (List.cons.inj e).1
  cases e2
  exact ⟨n, rfl, wf_byte hw⟩
theorem entFlat : flatT Tryz.prog 3 44 = some [3, 3, 3, 3, 9, 9, 3] := by kernel_rfl
theorem wf_i64 {a : Int} (w : (Lit.int .i64 a).wf = true) : -9223372036854775808 ≤ a ∧ a ≤ 9223372036854775807 := by
  simp [Lit.wf, IntKind.min, IntKind.max, IntKind.signed, IntKind.bits] at w; omega
set_option maxRecDepth 100000 in
theorem open_ents {H : Type} {enc : TypeId × Value → H} {w : World} {base base0 : Nat} {spare : Nat → Bool} {held : Bool} {v : Value} {d : DataW H} {ps : List MemPlace} (hval : Value.okWide Tryz.prog w .any base0 52 v) (h : DataW.Trod enc Tryz.prog w base spare held 52 v d ps) :
    ∃ (a : Option Addr) (tc : Nat) (l : List Api.EntryM), v = .slice a l.length tc ∧ l.length ≤ tc ∧ RwIn Lg.entC 7 (fun b => b < w.heap.size) w a l ∧ ∀ e ∈ l, -9223372036854775808 ≤ e.index ∧ e.index ≤ 9223372036854775807 := by
  obtain ⟨a0, n0, c0, rfl⟩ := okWide_slice Tryz.underlying52 hval
  obtain ⟨fuel, hf⟩ := h
  obtain ⟨a, tc, l, e, h1, h2, h3⟩ := open_rows (α := Api.EntryM) Lg.entC (fun e => -9223372036854775808 ≤ e.index ∧ e.index ≤ 9223372036854775807) Tryz.underlying52 entFlat (by kernel_rfl) (by decide) (fun cs hl hc => by
    match cs, hl, hc with
    | [c0, c1, c2, c3, c4, c5, c6], _, h3 =>
    obtain ⟨n0, rfl, w0⟩ := (h3 0 c0 _ rfl rfl).int Tryz.underlying3
    obtain ⟨n1, rfl, _⟩ := (h3 1 c1 _ rfl rfl).int Tryz.underlying3
    obtain ⟨n2, rfl, _⟩ := (h3 2 c2 _ rfl rfl).int Tryz.underlying3
    obtain ⟨n3, rfl, _⟩ := (h3 3 c3 _ rfl rfl).int Tryz.underlying3
    obtain ⟨s4, rfl, _⟩ := (h3 4 c4 _ rfl rfl).str Tryz.underlying9
    obtain ⟨s5, rfl, _⟩ := (h3 5 c5 _ rfl rfl).str Tryz.underlying9
    obtain ⟨n6, rfl, _⟩ := (h3 6 c6 _ rfl rfl).int Tryz.underlying3
    exact ⟨⟨n0, n1, n2, ⟨n3, s4, s5, n6⟩⟩, rfl, wf_i64 w0⟩) hf
  refine ⟨a, tc, l, e, h1.1, ⟨h3⟩, h2⟩
theorem own_tails : ownKnob Tryz.prog.godebug = none := by kernel_rfl
theorem laidOut_tails : laidOutB Tryz.prog = true := by kernel_rfl
set_option maxRecDepth 100000 in
theorem tails_lifted (os : Os) (started : os.Started) (H : Type) (enc : TypeId × Value → H) :
    ReturnsInHanded {} Tryz.checked os 4 .any (Rows.replicaTailsSpec.pre6 enc Tryz.prog Tryz.f4 Rows.replicaTailsRow.domain false) (Rows.replicaTailsSpec.post enc Tryz.prog Tryz.f4 false true false false) := by
  refine law_returns (C := Tryz.checked) own_tails started (by kernel_rfl) Tryz.func4
    (ChangeSpec.witness6 (enc := enc) (C := Tryz.checked) false ⟨#[], #[.agg #[.int .i64 0, .int .i64 0, .int .i64 0, .slice none 0 0, .int .i64 0, .int .i64 0, .int .i64 0, .int .i64 0, .int .i64 0, .int .i64 0, .int .i64 0, .int .i64 0], .slice none 0 0, .int .u8 0], []⟩ 8 (by kernel_rfl) (by kernel_rfl) (by kernel_rfl) (by kernel_rfl))
    laidOut_tails (by rw [Tryz.params4]; simp; exact ⟨⟨by kernel_rfl, of_decide_eq_true (by kernel_rfl)⟩, ⟨by kernel_rfl, of_decide_eq_true (by kernel_rfl)⟩, by kernel_rfl, of_decide_eq_true (by kernel_rfl)⟩) rfl rfl Tryz.underlying4
    (fun ds h => by
      rw [Tryz.params4] at h
      match ds, h with
      | [d1, d2, d3], _ => rfl) ?_
  intro W base args ds ps hval hA _ _
  rw [Tryz.params4] at hA hval
  obtain ⟨v0, vs0, d0, ds0, p0, q0, hargs, rfl, rfl, h0, r0⟩ := trodAll_cons hA
  obtain ⟨v1, vs1, d1, ds1, p1, q1, rfl, rfl, rfl, h1, r1⟩ := trodAll_cons r0
  obtain ⟨v2, vs2, d2, ds2, p2, q2, rfl, rfl, rfl, h2, r2⟩ := trodAll_cons r1
  obtain ⟨rfl, rfl, rfl⟩ := trodAll_nil r2
  obtain rfl : args = #[v0, v1, v2] := by cases args; simp_all
  obtain ⟨c, ca, cc, rfl, hcc, hq⟩ := open_conf (hval 0 24 v0 rfl rfl) h0
  obtain ⟨la, lc, l, rfl, hll, hl, hlb⟩ := open_ents (hval 1 52 v1 rfl rfl) h1
  obtain ⟨a2, rfl, hb2⟩ := open_u8 (hval 2 5 v2 rfl rfl) h2
  have T := tails_spec (fun b => b < W.heap.size) W c ca cc hq la lc l hl hlb a2 hb2
  exact ⟨T.callable, fun hl hs => Calls.mono (T.calls hl hs) fun e W' ⟨v, L', h1, h2, h3, h4⟩ => ⟨v, L', h1, h2.1, h3, h4⟩⟩

theorem tails_holds : Rows.ReplicaTailsSaid :=
  OpenClaim.holds_of_wide 4 Tryz.f4 rfl rfl rfl rfl rfl rfl rfl ⟨rfl, rfl, rfl, rfl, rfl⟩ rfl rfl rfl rfl rfl (by kernel_rfl) Tryz.func4 (by kernel_rfl)
    (of_decide_eq_true (by kernel_rfl)) (by unfold Func.isWrapper; first | (rw [if_pos (by decide +kernel)]; kernel_rfl) | (rw [if_neg (by decide +kernel)]; exact ⟨rfl, rfl⟩))
    (fun os started H enc _ => tails_lifted os started H enc)
#print axioms tails_holds
end Go.Proofs.YtbbnmgakmcppdaaGreat.Rep
