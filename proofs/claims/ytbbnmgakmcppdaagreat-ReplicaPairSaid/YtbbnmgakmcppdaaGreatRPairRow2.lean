/- Nodes: one that comes into a chain has nothing, and becomes whole. Plain. No condition. -/
import Derived.Test.YtbbnmgakmcppdaaGreatRepB
import Derived.Test.YtbbnmgakmcppdaaGreatALaw
import Derived.Test.YtbbnmgakmcppdaaGreatAArg
namespace Go.Proofs.YtbbnmgakmcppdaaGreat.Rep
open Go Go.Proofs.YtbbnmgakmcppdaaGreat.Vg Go.Proofs.YtbbnmgakmcppdaaGreat.T Go.Proofs.YtbbnmgakmcppdaaGreat.Api Go.Proofs.YtbbnmgakmcppdaaGreat.Kv Go.Proofs.YtbbnmgakmcppdaaGreat.Ch Go.Proofs.YtbbnmgakmcppdaaGreat.Lg Go.Proofs.YtbbnmgakmcppdaaGreat.Rd Go.Proofs.YtbbnmgakmcppdaaGreat.Win Go.Proofs.YtbbnmgakmcppdaaGreat.Adm Go.Proofs.YtbbnmgakmcppdaaGreat.Sched Go.Proofs.YtbbnmgakmcppdaaGreat.Conf
set_option linter.unusedSimpArgs false
set_option linter.unusedVariables false

def cF (c : ConfM) : ConfM := { fitM c with nodes := 3, chain := 2 }
theorem cF_fit (c : ConfM) : cF c = fitM (cF c) := by
  have h := fit_idem c
  have e : ∀ {a b : ConfM}, a = b → a.clients = b.clients ∧ a.qs = b.qs ∧ a.queue = b.queue ∧ a.window = b.window ∧ a.reads = b.reads ∧ a.link = b.link ∧ a.patience = b.patience ∧ a.timeout = b.timeout ∧ a.budget = b.budget ∧ a.refill = b.refill := fun h => by subst h; exact ⟨rfl, rfl, rfl, rfl, rfl, rfl, rfl, rfl, rfl, rfl⟩
  obtain ⟨h1, h2, h3, h4, h5, h6, h7, h8, h9, h10⟩ := e h
  exact conf_ext (by show (3 : Int) = near 3 1 6; decide) (by show (2 : Int) = near 2 1 (near 3 1 6); decide) h1 h2 h3 h4 h5 h6 h7 h8 h9 h10
def chF : ChM := ⟨2, [(0, 1), (1, 1), (2, 2)], -1⟩
def cfgF : FrameM := { FrameM.zero with kind := 8, cepoch := 2, drain := -1 }
def getF : FrameM := { FrameM.zero with kind := 1, epoch := 2, client := 0, seq := 1, try_ := 1, deadline := 99, op := ⟨1, ⟨#[107]⟩, ⟨#[]⟩, 0⟩ }
def entF (i : Nat) : EntryM := ⟨i + 1, 0, i + 1, ⟨2, ⟨#[107]⟩, ⟨#[118]⟩, 0⟩⟩
def entsF (i : Nat) : List EntryM := (List.range i).map entF
def fwdF (i : Nat) : FrameM := { FrameM.zero with kind := 4, epoch := 2, entry := entF i }
def basF (b : Int) : FrameM := { FrameM.zero with kind := 6, epoch := 2, index := b }
theorem entsF_len (i : Nat) : (entsF i).length = i := by simp [entsF]
theorem entsF_succ (i : Nat) : entsF (i + 1) = entsF i ++ [entF i] := by simp [entsF, List.range_succ]
theorem entsF_err : ∀ i ∈ List.range 40, logErr (entsF i) (entF i) = 0 := by decide +kernel
theorem chF_is : tailOf chF = 2 ∧ prevOf chF 2 = 1 ∧ chE chF = 0 ∧ sinceOf chF 2 = (2, true) ∧ readsB getF.op = true := by decide +kernel
section
variable {R : RepM} {from_ : Int} {f : FrameM} {ms : List MemM} {now : Int}
theorem take_call (h : f.kind = 1) (h0 : 0 ≤ f.client) (h1 : f.client < R.clients) : takeR R from_ f ms now = if readsB f.op = true then readR R f now else updateR R f now := by
  unfold takeR; rw [if_pos h, if_neg (by omega), if_neg (by omega)]
theorem take_fwd (h : f.kind = 4) : takeR R from_ f ms now = if R.knownB f = true ∧ isNodeB from_ R.prevM = true then forwardR R f.entry else (R, []) := by
  unfold takeR; rw [if_neg (by omega), if_neg (by omega), if_pos h]
theorem take_ack (h : f.kind = 5) : takeR R from_ f ms now = if R.knownB f = true ∧ isNodeB from_ R.nextM = true then ackR R f else (R, []) := by
  unfold takeR; rw [if_neg (by omega), if_neg (by omega), if_neg (by omega), if_pos h]
theorem take_base (h : f.kind = 6) : takeR R from_ f ms now = if R.knownB f = true ∧ isNodeB from_ R.prevM = true then ((baseR R f.index).becomeR, (baseR R f.index).becomeM) else (R, []) := by
  unfold takeR; rw [if_neg (by omega), if_neg (by omega), if_neg (by omega), if_neg (by omega), if_pos h]
end
structure FrI (b : Int) (i : Nat) (R : RepM) : Prop where
  fit : R.Fit
  ch : R.ch = chF
  id : R.id = 2
  since : R.since = 2
  whole : R.whole = (decide (0 ≤ b) && decide (b ≤ i))
  base : R.base = b
  log : R.log = entsF i
  last : R.win.last = i
  done : R.win.done = i
  rl : R.rds.l = []
  rlast : R.rds.last = 0
  cl : 1 ≤ R.clients
  low : -1 ≤ b
theorem FrI.tail {b : Int} {i : Nat} {R : RepM} (h : FrI b i R) : R.tailB = true := by
  rw [RepM.tailB, RepM.inB, h.since, h.ch, chF_is.1, h.id]; rfl
theorem new_blank (c : ConfM) : (newR (cF c) 2 false).whole = false ∧ (newR (cF c) 2 false).since = 0 := by
  have e : sinceOf (firstC (cF c)) 2 = (0, false) := by
    show sinceOf ⟨1, firstMs 2, -1⟩ 2 = (0, false)
    decide +kernel
  unfold newR
  rw [if_neg (by simp), if_neg (by rw [e]; simp)]
  exact ⟨rfl, rfl⟩
theorem new_is (c : ConfM) : newR (cF c) 2 false = { newR0 (cF c) 2 with ch := firstC (cF c) } := by
  have e : sinceOf (firstC (cF c)) 2 = (0, false) := by
    show sinceOf ⟨1, firstMs 2, -1⟩ 2 = (0, false)
    decide +kernel
  unfold newR
  rw [if_neg (by simp), if_neg (by rw [e]; simp)]
theorem fr_enter (c : ConfM) : FrI (-1) 0 (takeR (newR (cF c) 2 false) 16 cfgF chF.ms 0).1 := by
  have hb := conf_bounds (cF_fit c)
  have f0 := newR_fit (cF_fit c) 2 false
  have hf := takeR_fit f0 (by rw [new_is]; exact (by decide : (0 : Int) < 100000000)) 16 cfgF chF.ms 0
  have e1 : takeR (newR (cF c) 2 false) 16 cfgF chF.ms 0 = enterR (newR (cF c) 2 false) chF := by
    unfold takeR
    rw [if_neg (by decide), if_pos (by decide), if_pos ⟨⟨rfl, chF_is.2.2.1⟩, by rw [new_is]; exact (by decide : (1 : Int) < 2)⟩]; rfl
  rw [e1] at hf ⊢
  rw [new_is] at hf ⊢
  have hs := chF_is.2.2.2.1
  generalize hR : ({ newR0 (cF c) 2 with ch := firstC (cF c) } : RepM) = R at hf ⊢
  have i1 : R.id = 2 := by rw [← hR]; rfl
  have i2 : R.since = 0 := by rw [← hR]; rfl
  have i3 : R.whole = false := by rw [← hR]; rfl
  have i4 : R.clients = (cF c).clients := by rw [← hR]; rfl
  have i5 : R.rds.last = 0 := by rw [← hR]; rfl
  have n1 : nlB R chF = true := by rw [nlB, i1, i2, hs]; rfl
  have n2 : nwB R chF = true := by rw [nwB, i1, i2, hs]; rfl
  have w4 : (ent4 R chF).whole = false := by show (if nwB R chF then false else R.whole) = false; rw [n2]; rfl
  have e5 : ent5 R chF = ent4 R chF := by rw [ent5, w4]; rfl
  have l4 : (ent4 R chF).win = { WinM.new R.cap with sent := 0, limit := 0 } := by show ({ (if nlB R chF then WinM.new R.cap else R.win) with sent := (if nlB R chF then WinM.new R.cap else R.win).last, limit := 0 } : WinM) = _; rw [n1]; rfl
  have g4 : (ent4 R chF).log = [] := by show (if nlB R chF then [] else R.log) = []; rw [n1]; rfl
  have s4 : (ent4 R chF).since = 2 := by show (sinceOf chF R.id).1 = 2; rw [i1, hs]
  have hst := finish_stays (ent4 R chF)
  have hw : (ent4 R chF).finishR.win.last = 0 ∧ (ent4 R chF).finishR.win.done = 0 := by
    unfold RepM.finishR; split
    · show (WinM.ack _ _).last = 0 ∧ (WinM.ack _ _).done = 0
      rw [l4]; exact ⟨rfl, rfl⟩
    · rw [l4]; exact ⟨rfl, rfl⟩
  have ho : (ent4 R chF).finishR.ch = chF ∧ (ent4 R chF).finishR.since = 2 ∧ (ent4 R chF).finishR.whole = false ∧ (ent4 R chF).finishR.base = -1 ∧ (ent4 R chF).finishR.log = [] ∧ (ent4 R chF).finishR.rds.l = [] ∧ (ent4 R chF).finishR.rds.last = 0 := by
    unfold RepM.finishR; split <;> exact ⟨rfl, s4, w4, rfl, g4, rfl, i5⟩
  have er : (enterR R chF).1 = (ent4 R chF).finishR := by show (ent5 R chF).finishR = _; rw [e5]
  rw [er] at hf ⊢
  exact ⟨hf, ho.1, by rw [hst.id]; exact i1, ho.2.1, by rw [ho.2.2.1]; rfl, ho.2.2.2.1, by rw [ho.2.2.2.2.1]; rfl, hw.1, hw.2, ho.2.2.2.2.2.1, ho.2.2.2.2.2.2, by rw [hst.clients]; show 1 ≤ R.clients; rw [i4]; omega, by decide⟩
/-- An entry comes, in order. -/
theorem fr_next {b : Int} {i : Nat} {R : RepM} (h : FrI b i R) (hi : i < 40) : FrI b (i + 1) (takeR R 1 (fwdF i) [] 0).1 := by
  have hf := takeR_fit h.fit (by rw [h.rlast]; decide) 1 (fwdF i) [] 0
  have hst := take_stays R 1 (fwdF i) [] 0
  have hw := h.fit.ok.win
  have w0 := hw.cap0
  have hl := h.last; have hd := h.done
  have he : fwdB R (entF i) = true ∧ logErr R.log (entF i) = 0 := by
    refine ⟨?_, by rw [h.log]; exact entsF_err i (List.mem_range.2 hi)⟩
    rw [fwdB, Bool.and_eq_true]
    refine ⟨by rw [hl]; show ((i : Int) + 1 == i + 1) = true; simp, decide_eq_true (by omega)⟩
  have e1 : takeR R 1 (fwdF i) [] 0 = forwardR R (entF i) := by
    rw [take_fwd rfl, if_pos ⟨by rw [RepM.knownB, h.ch]; rfl, by rw [RepM.prevM, h.ch, h.id, chF_is.2.1]; rfl⟩]
    rfl
  rw [e1] at hf hst ⊢
  have e2 : (forwardR R (entF i)).1 = (pushE R (entF i)).finishR.becomeR := by rw [forwardR, if_pos he]
  rw [e2] at hf hst ⊢
  have ht : (pushE R (entF i)).tailB = true := h.tail
  have e3 : (pushE R (entF i)).finishR = { pushE R (entF i) with win := (pushE R (entF i)).win.ack (pushE R (entF i)).win.last } := by rw [RepM.finishR, if_pos ht]
  have hlast : (pushE R (entF i)).win.last = (i : Int) + 1 := by show R.win.last + 1 = _; rw [hl]
  have hk : ((pushE R (entF i)).win.ack (pushE R (entF i)).win.last).last = (i : Int) + 1 ∧ ((pushE R (entF i)).win.ack (pushE R (entF i)).win.last).done = (i : Int) + 1 := by
    have : (pushE R (entF i)).win.ackB (pushE R (entF i)).win.last = true := by
      rw [WinM.ackB, hlast, Bool.and_eq_true]
      exact ⟨decide_eq_true (by show R.win.done < _; omega), decide_eq_true (by omega)⟩
    rw [WinM.ack, if_pos this]
    exact ⟨hlast, hlast⟩
  generalize hQ : (pushE R (entF i)).finishR = Q at *
  have q : Q.ch = chF ∧ Q.id = 2 ∧ Q.since = 2 ∧ Q.whole = R.whole ∧ Q.base = b ∧ Q.log = entsF (i + 1) ∧ Q.win.last = (i : Int) + 1 ∧ Q.win.done = (i : Int) + 1 ∧ Q.rds.l = [] ∧ Q.rds.last = 0 := by
    rw [e3]
    exact ⟨h.ch, h.id, h.since, rfl, h.base, by show R.log ++ [entF i] = _; rw [h.log, entsF_succ], hk.1, hk.2, h.rl, h.rlast⟩
  obtain ⟨q1, q2, q3, q4, q5, q6, q7, q8, q9, q10⟩ := q
  have hb : Q.becomeB = (!(decide (0 ≤ b) && decide (b ≤ i)) && (decide (b ≠ -1) && decide (b ≤ (i : Int) + 1))) := by
    rw [RepM.becomeB, RepM.inB, q3, q4, h.whole, q5, q7]; rfl
  have hcl : 1 ≤ Q.becomeR.clients := by rw [hst.clients]; exact h.cl
  have hk1 : ∀ j : Int, -1 ≤ b → True := fun _ _ => trivial
  by_cases hbb : Q.becomeB = true
  · have e4 : Q.becomeR = { Q with whole := true, start := Q.win.last } := by rw [RepM.becomeR, if_pos hbb]
    refine ⟨hf, by rw [e4]; exact q1, by rw [e4]; exact q2, by rw [e4]; exact q3, ?_, by rw [e4]; exact q5, by rw [e4]; exact q6, by rw [e4]; exact q7, by rw [e4]; exact q8, by rw [e4]; exact q9, by rw [e4]; exact q10, hcl, h.low⟩
    rw [e4]
    rw [hb] at hbb
    simp only [Bool.and_eq_true, Bool.not_eq_true', decide_eq_true_eq, Bool.and_eq_false_iff, decide_eq_false_iff_not] at hbb
    show true = _
    rw [eq_comm, Bool.and_eq_true]
    have := h.low
    exact ⟨decide_eq_true (by omega), decide_eq_true (by push_cast; omega)⟩
  · have e4 : Q.becomeR = Q := by rw [RepM.becomeR, if_neg hbb]
    refine ⟨hf, by rw [e4]; exact q1, by rw [e4]; exact q2, by rw [e4]; exact q3, ?_, by rw [e4]; exact q5, by rw [e4]; exact q6, by rw [e4]; exact q7, by rw [e4]; exact q8, by rw [e4]; exact q9, by rw [e4]; exact q10, hcl, h.low⟩
    rw [e4, q4, h.whole]
    rw [hb] at hbb
    have := h.low
    by_cases h0 : 0 ≤ b
    · rw [decide_eq_true h0] at hbb ⊢
      by_cases h1 : b ≤ (i : Int)
      · rw [decide_eq_true h1, decide_eq_true (show b ≤ ((i + 1 : Nat) : Int) by push_cast; omega)]
      · rw [decide_eq_false h1, decide_eq_true (show b ≠ -1 by omega)] at hbb
        rw [decide_eq_false h1]
        have h2 : ¬ b ≤ (i : Int) + 1 := fun h2 => hbb (by rw [decide_eq_true h2]; rfl)
        rw [decide_eq_false (show ¬ b ≤ ((i + 1 : Nat) : Int) by push_cast; omega)]
    · rw [decide_eq_false h0]; rfl
/-- The base comes. -/
theorem fr_base {i : Nat} {R : RepM} (h : FrI (-1) i R) {b : Int} (hb : 0 ≤ b) : FrI b i (takeR R 1 (basF b) [] 0).1 := by
  have hf := takeR_fit h.fit (by rw [h.rlast]; decide) 1 (basF b) [] 0
  have hst := take_stays R 1 (basF b) [] 0
  have e1 : takeR R 1 (basF b) [] 0 = ((baseR R b).becomeR, (baseR R b).becomeM) := by
    rw [take_base rfl, if_pos ⟨by rw [RepM.knownB, h.ch]; rfl, by rw [RepM.prevM, h.ch, h.id, chF_is.2.1]; rfl⟩]
    rfl
  have hcl : 1 ≤ (takeR R 1 (basF b) [] 0).1.clients := by rw [hst.clients]; exact h.cl
  rw [e1] at hf hst hcl ⊢
  have hw : R.whole = false := by rw [h.whole]; rfl
  have hm : max b (-1) = b := by omega
  have hbe : (baseR R b).becomeB = decide (b ≤ (i : Int)) := by
    rw [RepM.becomeB, RepM.inB]
    show (decide (0 < R.since) && (!R.whole && (decide (max b (-1) ≠ -1) && decide (max b (-1) ≤ R.win.last)))) = _
    rw [h.since, hw, hm, h.last, decide_eq_true (show b ≠ -1 by omega)]; rfl
  by_cases hbb : b ≤ (i : Int)
  · have e4 : (baseR R b).becomeR = { baseR R b with whole := true, start := R.win.last } := by rw [RepM.becomeR, hbe, if_pos (decide_eq_true hbb)]; rfl
    dsimp only at hf hcl ⊢
    rw [e4] at hf hcl ⊢
    exact ⟨hf, h.ch, h.id, h.since, by show true = _; rw [decide_eq_true hb, decide_eq_true hbb]; rfl, hm, h.log, h.last, h.done, h.rl, h.rlast, hcl, by omega⟩
  · have e4 : (baseR R b).becomeR = baseR R b := by rw [RepM.becomeR, hbe, decide_eq_false hbb]; rfl
    dsimp only at hf hcl ⊢
    rw [e4] at hf hcl ⊢
    exact ⟨hf, h.ch, h.id, h.since, by show R.whole = _; rw [hw, decide_eq_false hbb, Bool.and_false], hm, h.log, h.last, h.done, h.rl, h.rlast, hcl, by omega⟩
/-- It is asked. -/
theorem fr_get {b : Int} {i : Nat} {R : RepM} (h : FrI b i R) : (R.whole = false → takeR R 32 getF [] 0 = (R, [(32, refuseF 2 getF 8)])) ∧ (R.whole = true → (takeR R 32 getF [] 0).2 = [(16, confirmF 2 1)] ∧ (takeR R 32 getF [] 0).1.whole = true) := by
  have hc := h.cl
  have e1 : takeR R 32 getF [] 0 = readR R getF 0 := by
    rw [take_call rfl (by decide) (by show (0 : Int) < R.clients; omega), if_pos chF_is.2.2.2.2]
  have k1 : R.knownB getF = true := by rw [RepM.knownB, h.ch]; rfl
  rw [e1]
  constructor
  · intro hw
    have e2 : readReason R getF 0 = 8 := by rw [readReason, if_neg (by rw [k1]; simp), if_neg (by rw [h.tail]; simp), if_pos hw]
    rw [readR, e2, if_pos (by decide), h.ch]; rfl
  · intro hw
    have hm := h.fit.most; have hr := h.fit.ok.rc0
    have e2 : readReason R getF 0 = 0 := by
      rw [readReason, if_neg (by rw [k1]; simp), if_neg (by rw [h.tail]; simp), if_neg (by rw [hw]; simp), if_neg (by decide), h.rl, if_neg (by show ¬ R.most ≤ (0 : Int); omega)]
    rw [readR, e2, if_neg (by simp), h.ch, h.rlast]
    exact ⟨rfl, hw⟩
end Go.Proofs.YtbbnmgakmcppdaaGreat.Rep
namespace Go.Proofs.YtbbnmgakmcppdaaGreat.Rep
open Go Go.Proofs.YtbbnmgakmcppdaaGreat.Vg Go.Proofs.YtbbnmgakmcppdaaGreat.T Go.Proofs.YtbbnmgakmcppdaaGreat.Api Go.Proofs.YtbbnmgakmcppdaaGreat.Kv Go.Proofs.YtbbnmgakmcppdaaGreat.Ch Go.Proofs.YtbbnmgakmcppdaaGreat.Lg Go.Proofs.YtbbnmgakmcppdaaGreat.Rd Go.Proofs.YtbbnmgakmcppdaaGreat.Win Go.Proofs.YtbbnmgakmcppdaaGreat.Adm Go.Proofs.YtbbnmgakmcppdaaGreat.Sched Go.Proofs.YtbbnmgakmcppdaaGreat.Conf
set_option linter.unusedSimpArgs false
set_option linter.unusedVariables false

def cT (c : ConfM) : ConfM := { fitM c with nodes := 2, chain := 2 }
theorem cT_fit (c : ConfM) : cT c = fitM (cT c) := by
  have h := fit_idem c
  have e : ∀ {a b : ConfM}, a = b → a.clients = b.clients ∧ a.qs = b.qs ∧ a.queue = b.queue ∧ a.window = b.window ∧ a.reads = b.reads ∧ a.link = b.link ∧ a.patience = b.patience ∧ a.timeout = b.timeout ∧ a.budget = b.budget ∧ a.refill = b.refill := fun h => by subst h; exact ⟨rfl, rfl, rfl, rfl, rfl, rfl, rfl, rfl, rfl, rfl⟩
  obtain ⟨h1, h2, h3, h4, h5, h6, h7, h8, h9, h10⟩ := e h
  exact conf_ext (by show (2 : Int) = near 2 1 6; decide) (by show (2 : Int) = near 2 1 (near 2 1 6); decide) h1 h2 h3 h4 h5 h6 h7 h8 h9 h10
def chT2 : ChM := ⟨1, [(0, 1), (1, 1)], -1⟩
theorem chT2_is : headOf chT2 = 0 ∧ tailOf chT2 = 1 ∧ prevOf chT2 1 = 0 ∧ nextOf chT2 0 = 1 ∧ prevOf chT2 0 = -1 ∧ nextOf chT2 1 = -1 ∧ sinceOf chT2 0 = (1, true) ∧ sinceOf chT2 1 = (1, true) := by decide +kernel
theorem firstT (c : ConfM) : firstC (cT c) = chT2 := by
  show (⟨1, firstMs 2, -1⟩ : ChM) = chT2
  rfl
theorem newT (c : ConfM) {id : Int} (h : sinceOf chT2 id = (1, true)) : newR (cT c) id false = { newR0 (cT c) id with ch := chT2, since := 1, whole := true, start := 0 } := by
  unfold newR
  rw [firstT, if_neg (by simp), h, if_pos rfl]
def fwdE (e : EntryM) : FrameM := { FrameM.zero with kind := 4, epoch := 1, entry := e }
structure TlI (R : RepM) : Prop where
  fit : R.Fit
  ch : R.ch = chT2
  id : R.id = 1
  since : R.since = 1
  whole : R.whole = true
  done : R.win.done = R.win.last
  rlast : R.rds.last = 0
theorem TlI.tail {R : RepM} (h : TlI R) : R.tailB = true := by rw [RepM.tailB, RepM.inB, h.since, h.ch, chT2_is.2.1, h.id]; rfl
theorem TlI.prev {R : RepM} (h : TlI R) : R.prevM = 0 := by rw [RepM.prevM, h.ch, h.id, chT2_is.2.2.1]
theorem tl_new (c : ConfM) : TlI (newR (cT c) 1 false) := by
  have hf := newR_fit (cT_fit c) 1 false
  rw [newT c chT2_is.2.2.2.2.2.2.2] at hf ⊢
  exact ⟨hf, rfl, rfl, rfl, rfl, rfl, rfl⟩
theorem greetT {R : RepM} (h : TlI R) : ∃ g, R.greetM = [(0, ackF 1 R.win.done g R.win.last)] := by
  rw [RepM.greetM, h.prev, if_neg (by decide), h.ch]; exact ⟨_, rfl⟩
def tlRes (es : List EntryM) (e : EntryM) : ResM := (atI (logRun (es ++ [e])).2 ((es.length : Int) + 1)).getD resZ
theorem atI_snoc {α : Type} (es : List α) (e : α) : atI (es ++ [e]) ((es.length : Int) + 1) = some e := by
  unfold atI
  rw [if_pos (by omega)]
  rw [show ((es.length : Int) + 1 - 1).toNat = es.length by omega, List.getElem?_append_right (Nat.le_refl _), Nat.sub_self]; rfl
theorem tl_step {R : RepM} (h : TlI R) (e : EntryM) :
    ((takeR R 0 (fwdE e) [] 0).1 = R ∧ ∃ g, (takeR R 0 (fwdE e) [] 0).2 = [(0, ackF 1 R.log.length g R.log.length)]) ∨
    (TlI (takeR R 0 (fwdE e) [] 0).1 ∧ (takeR R 0 (fwdE e) [] 0).1.log = R.log ++ [e] ∧ e.index = R.log.length + 1 ∧ 0 ≤ e.client ∧ e.client < 6 ∧
      ∃ g, (takeR R 0 (fwdE e) [] 0).2 = [(32 + e.client, replyF e.client e.seq 0 (tlRes R.log e)), (0, ackF 1 ((R.log.length : Int) + 1) g ((R.log.length : Int) + 1))]) := by
  have hl := h.fit.ok.last
  have e1 : takeR R 0 (fwdE e) [] 0 = forwardR R e := by
    rw [take_fwd rfl, if_pos ⟨by rw [RepM.knownB, h.ch]; rfl, by rw [h.prev]; rfl⟩]; rfl
  have hf := takeR_fit h.fit (by rw [h.rlast]; decide) 0 (fwdE e) [] 0
  have hst := take_stays R 0 (fwdE e) [] 0
  rw [e1] at hf hst ⊢
  by_cases he : fwdB R e = true ∧ logErr R.log e = 0
  · refine .inr ?_
    have hok := logErr_ok he.2
    have hbad := hok.1
    have hcl : 0 ≤ e.client ∧ e.client < 6 := by
      simp only [badE, Bool.or_eq_false_iff, decide_eq_false_iff_not] at hbad
      omega
    have e2 : forwardR R e = ((pushE R e).finishR.becomeR, (pushE R e).finishM ++ (pushE R e).finishR.becomeM ++ (pushE R e).finishR.becomeR.greetM) := by rw [forwardR, if_pos he]
    rw [e2] at hf hst ⊢
    have ht : (pushE R e).tailB = true := h.tail
    have hlast : (pushE R e).win.last = (R.log.length : Int) + 1 := by show R.win.last + 1 = _; rw [hl]
    have hdone : (pushE R e).win.done = (R.log.length : Int) := by show R.win.done = _; rw [h.done, hl]
    have hM : (pushE R e).finishM = [(32 + e.client, replyF e.client e.seq 0 (tlRes R.log e))] := by
      rw [RepM.finishM, if_pos ht, hlast, hdone, show ((R.log.length : Int) + 1 - R.log.length).toNat = 1 by omega, replies, hdone]
      show [replyOf (pushE R e) ((R.log.length : Int) + 1 + (0 : Nat))] = _
      rw [show (R.log.length : Int) + 1 + ((0 : Nat) : Int) = R.log.length + 1 by simp, replyOf]
      have ea : (atI (pushE R e).log ((R.log.length : Int) + 1)).getD entZ = e := by show (atI (R.log ++ [e]) _).getD entZ = e; rw [atI_snoc]; rfl
      rw [ea]; rfl
    have e3 : (pushE R e).finishR = { pushE R e with win := (pushE R e).win.ack (pushE R e).win.last } := by rw [RepM.finishR, if_pos ht]
    have hk : ((pushE R e).win.ack (pushE R e).win.last).last = (R.log.length : Int) + 1 ∧ ((pushE R e).win.ack (pushE R e).win.last).done = (R.log.length : Int) + 1 := by
      have : (pushE R e).win.ackB (pushE R e).win.last = true := by
        rw [WinM.ackB, hlast, hdone, Bool.and_eq_true]
        exact ⟨decide_eq_true (by omega), decide_eq_true (by omega)⟩
      rw [WinM.ack, if_pos this]
      exact ⟨hlast, hlast⟩
    have q : (pushE R e).finishR.ch = chT2 ∧ (pushE R e).finishR.id = 1 ∧ (pushE R e).finishR.since = 1 ∧ (pushE R e).finishR.whole = true ∧ (pushE R e).finishR.log = R.log ++ [e] ∧ (pushE R e).finishR.win.last = (R.log.length : Int) + 1 ∧ (pushE R e).finishR.win.done = (R.log.length : Int) + 1 ∧ (pushE R e).finishR.rds.last = 0 := by
      rw [e3]
      exact ⟨h.ch, h.id, h.since, h.whole, rfl, hk.1, hk.2, h.rlast⟩
    generalize hQ : (pushE R e).finishR = Q at *
    obtain ⟨q1, q2, q3, q4, q5, q6, q7, q8⟩ := q
    have hb : Q.becomeB = false := by rw [RepM.becomeB, q4]; simp
    have e4 : Q.becomeR = Q ∧ Q.becomeM = [] := by rw [RepM.becomeR, RepM.becomeM, hb]; exact ⟨rfl, rfl⟩
    rw [e4.1] at hf
    rw [e4.1, e4.2, hM]
    have hT : TlI Q := ⟨hf, q1, q2, q3, q4, by rw [q6, q7], q8⟩
    obtain ⟨g, hg⟩ := greetT hT
    rw [q6, q7] at hg
    exact ⟨hT, q5, hok.2.2.1, hcl.1, hcl.2, g, by rw [hg]; rfl⟩
  · refine .inl ?_
    have e2 : forwardR R e = (R, R.greetM) := by rw [forwardR, if_neg he]
    obtain ⟨g, hg⟩ := greetT h
    rw [e2, hg, h.done, hl]
    exact ⟨rfl, g, rfl⟩
end Go.Proofs.YtbbnmgakmcppdaaGreat.Rep
namespace Go.Proofs.YtbbnmgakmcppdaaGreat.Adm
open Go Go.Proofs.YtbbnmgakmcppdaaGreat.Vg Go.Proofs.YtbbnmgakmcppdaaGreat.Api Go.Proofs.YtbbnmgakmcppdaaGreat.Sched Go.Proofs.YtbbnmgakmcppdaaGreat.Conf
set_option linter.unusedSimpArgs false
set_option linter.unusedVariables false

theorem aheadM_iff (t u : MkM) : aheadM t u = true ↔ t.1 < u.1 ∨ (t.1 = u.1 ∧ t.2 < u.2) := by simp [aheadM]
theorem aheadM_no (t u : MkM) : aheadM t u = false ↔ u.1 < t.1 ∨ (t.1 = u.1 ∧ u.2 ≤ t.2) := by
  rw [← Bool.not_eq_true, aheadM_iff]; omega
theorem has_iff (A : AdmM) (k : Int) : A.has k = true ↔ 0 ≤ k ∧ k < A.clients := by simp [AdmM.has]

/-! ### What is barred stays so -/
structure Le (A B : AdmM) : Prop where
  clients : B.clients = A.clients
  marks : ∀ k s t, A.barred k s t = true → B.barred k s t = true
theorem Le.refl (A : AdmM) : Le A A := ⟨rfl, fun _ _ _ h => h⟩
theorem Le.trans {A B C : AdmM} (h : Le A B) (k : Le B C) : Le A C := ⟨k.clients.trans h.clients, fun a b c x => k.marks a b c (h.marks a b c x)⟩
theorem Le.of_eq {A B : AdmM} (h1 : B.clients = A.clients) (h2 : B.marks = A.marks) : Le A B := ⟨h1, fun k s t h => by
  simpa only [AdmM.barred, AdmM.has, AdmM.mark, h1, h2] using h⟩
theorem mark_setMark {A : AdmM} (h : A.Wf) {k j : Int} (hk : 0 ≤ k ∧ k < 6) (hj : 0 ≤ j) (m : MkM) : (A.setMark k m).mark j = if j = k then m else A.mark j := by
  obtain ⟨n, rfl⟩ := Int.eq_ofNat_of_zero_le hk.1
  obtain ⟨i, rfl⟩ := Int.eq_ofNat_of_zero_le hj
  have hn : n < A.marks.length := by rw [h.marks]; omega
  simp only [AdmM.mark, AdmM.setMark, Int.toNat_natCast]
  by_cases e : i = n
  · subst e; simp [List.getElem?_set_self hn]
  · rw [if_neg (by omega), List.getElem?_set_ne (by omega)]
theorem wt_setWt {A : AdmM} (h : A.Wf) {k j : Int} (hk : 0 ≤ k ∧ k < 6) (hj : 0 ≤ j) (m : Int) : (A.setWt k m).wt j = if j = k then m else A.wt j := by
  obtain ⟨n, rfl⟩ := Int.eq_ofNat_of_zero_le hk.1
  obtain ⟨i, rfl⟩ := Int.eq_ofNat_of_zero_le hj
  have hn : n < A.waits.length := by rw [h.waits]; omega
  simp only [AdmM.wt, AdmM.setWt, Int.toNat_natCast]
  by_cases e : i = n
  · subst e; simp [List.getElem?_set_self hn]
  · rw [if_neg (by omega), List.getElem?_set_ne (by omega)]
theorem le_barF {A : AdmM} (h : A.Wf) {k : Int} (hk : A.has k = true) (s t : Int) : Le A (A.barF k s t) := by
  have hk2 := (has_iff A k).1 hk
  have hk6 : 0 ≤ k ∧ k < 6 := ⟨hk2.1, by have := h.c1; omega⟩
  unfold AdmM.barF
  split
  · rename_i ha
    refine ⟨rfl, fun j s' t' hj => ?_⟩
    simp only [AdmM.barred, Bool.and_eq_true, Bool.not_eq_true'] at hj ⊢
    have hjh := (has_iff A j).1 hj.1
    refine ⟨hj.1, ?_⟩
    rw [mark_setMark h hk6 hjh.1]
    split
    · rename_i e; subst e
      have h1 := hj.2
      rw [aheadM_no] at h1 ⊢
      rw [aheadM_iff] at ha
      dsimp only at h1 ha ⊢
      omega
    · exact hj.2
  · exact Le.refl A
theorem barF_bars {A : AdmM} (h : A.Wf) {k : Int} (hk : A.has k = true) (s t : Int) : (A.barF k s t).barred k s t = true := by
  have hk2 := (has_iff A k).1 hk
  have hk6 : 0 ≤ k ∧ k < 6 := ⟨hk2.1, by have := h.c1; omega⟩
  unfold AdmM.barF
  split
  · have hh : (A.setMark k (s, t)).has k = true := hk
    rw [AdmM.barred, hh, mark_setMark h hk6 hk6.1, if_pos rfl]
    have : aheadM (s, t) (s, t) = false := by rw [aheadM_no]; right; exact ⟨rfl, Int.le_refl _⟩
    rw [this]; rfl
  · rename_i ha
    rw [AdmM.barred, hk]
    simpa using ha
theorem le_barM {A : AdmM} (h : A.Wf) (k s t : Int) : Le A (A.barM k s t).2 := by
  unfold AdmM.barM
  split
  · rename_i hc
    simp only [Bool.and_eq_true] at hc
    exact le_barF h hc.1.1 s t
  · exact Le.refl A
theorem le_out {A : AdmM} (h : A.Wf) {f : FrameM} (hf : A.has f.client = true) : Le A (A.out f) := (Le.of_eq (A := A) (B := A.setWt f.client 0) rfl rfl).trans (le_barF (h.setWt _ _) hf _ _)
theorem le_expF : ∀ (l : List FrameM) {A : AdmM}, A.Wf → (∀ f ∈ l, A.has f.client = true) → Le A (A.expF l)
  | [], A, _, _ => Le.refl A
  | f :: l, A, h, hf => (le_out h (hf f (by simp))).trans (le_expF l (h.out f) fun g hg => by
    have := hf g (by simp [hg])
    rw [has_iff] at this ⊢
    rw [out_clients]; exact this)
theorem expF_bars : ∀ (l : List FrameM) {A : AdmM}, A.Wf → (∀ f ∈ l, A.has f.client = true) → ∀ f ∈ l, (A.expF l).barred f.client f.seq f.try_ = true
  | [], A, _, _, f, hf => by simp at hf
  | g :: l, A, h, hc, f, hf => by
    have hc2 : ∀ f ∈ l, (A.out g).has f.client = true := fun f hf => by
      have := hc f (by simp [hf])
      rw [has_iff] at this ⊢
      rw [out_clients]; exact this
    rcases List.mem_cons.1 hf with rfl | hf
    · exact (le_expF l (h.out f) hc2).marks _ _ _ (barF_bars (h.setWt _ _) (hc f (by simp)) _ _)
    · exact expF_bars l (h.out g) hc2 f hf
theorem gone_has {A : AdmM} (hC : A.Calls) (now : Int) (S : SchM) : ∀ f ∈ A.sch.goneM now, (A.withSch S).has f.client = true := fun f hf => (has_iff _ _).2 (gone_ok hC now f hf).1
theorem le_expire {A : AdmM} (h : A.Wf) (hC : A.Calls) (now : Int) : Le A (A.expireM now) :=
  (Le.of_eq (A := A) (B := A.withSch (A.sch.expM now)) rfl rfl).trans (le_expF _ (h.withSch (exp_wf h.sch now)) (gone_has hC now _))
theorem expire_bars {A : AdmM} (h : A.Wf) (hC : A.Calls) (now : Int) : ∀ f ∈ A.sch.goneM now, (A.expireM now).barred f.client f.seq f.try_ = true :=
  expF_bars _ (h.withSch (exp_wf h.sch now)) (gone_has hC now _)
theorem le_next' (A : AdmM) (now : Int) : Le (A.expireM now) (A.nextM now) := by
  unfold AdmM.nextM
  split <;> exact Le.of_eq rfl rfl
theorem le_next {A : AdmM} (h : A.Wf) (hC : A.Calls) (now : Int) : Le A (A.nextM now) := (le_expire h hC now).trans (le_next' A now)
theorem le_wait {A : AdmM} (f : FrameM) (now : Int) : Le A (A.waitM f now).2 := by
  unfold AdmM.waitM
  repeat' split
  all_goals exact Le.of_eq rfl rfl
theorem le_offer {A : AdmM} (h : A.Wf) (f : FrameM) (now : Int) : Le A (A.offerM f now).2 := by
  unfold AdmM.offerM
  repeat' split
  all_goals first | exact Le.refl A | exact (le_wait f now).trans (le_barM (h.waitM f now) _ _ _) | exact le_wait f now

/-- What is barred is refused, and changes nothing. -/
theorem offer_old {A : AdmM} {f : FrameM} (hm : A.may f = true) (hb : A.barred f.client f.seq f.try_ = true) (now : Int) : A.offerM f now = (7, A) := by
  obtain ⟨h1, h2, h3⟩ := may_client hm
  have hw : A.waitM f now = (7, A) := by unfold AdmM.waitM; rw [if_pos hb]
  have hbar : (A.barM f.client f.seq f.try_).2 = A := by
    unfold AdmM.barM
    split
    · unfold AdmM.barF
      rw [if_neg]
      simp only [AdmM.barred, Bool.and_eq_true, Bool.not_eq_true'] at hb
      rw [hb.2]; simp
    · rfl
  unfold AdmM.offerM
  rw [if_pos hm, hw]
  simp [hbar]
theorem offer_bars {A : AdmM} (h : A.Wf) {f : FrameM} (hm : A.may f = true) (now : Int) (h0 : (A.offerM f now).1 ≠ 0) (h6 : (A.offerM f now).1 ≠ 6) : (A.offerM f now).2.barred f.client f.seq f.try_ = true := by
  obtain ⟨h1, h2, h3⟩ := may_client hm
  unfold AdmM.offerM at h0 h6 ⊢
  rw [if_pos hm] at h0 h6 ⊢
  by_cases hc : (A.waitM f now).1 ≠ 0 ∧ (A.waitM f now).1 ≠ 6
  · rw [if_pos hc]
    have hcl := wait_clients A f now
    have hh : (A.waitM f now).2.has f.client = true := by rw [has_iff] at h1 ⊢; rw [hcl]; exact h1
    have : ((A.waitM f now).2.barM f.client f.seq f.try_) = (0, (A.waitM f now).2.barF f.client f.seq f.try_) := by simp [AdmM.barM, hh, h2, h3]
    dsimp only
    rw [this]
    exact barF_bars (h.waitM f now) hh _ _
  · rw [if_neg hc] at h0 h6
    exact absurd ⟨h0, h6⟩ hc
/-- What is offered waits, if it is told so: it was not barred, and nothing else of that client waited. -/
theorem offer_in {A : AdmM} {f : FrameM} {now : Int} (h0 : (A.offerM f now).1 = 0) : A.may f = true ∧ A.barred f.client f.seq f.try_ = false ∧ A.wt f.client = 0 ∧ ¬ f.deadline < now ∧ (A.sch.pushM f).1 = 0 ∧ (A.offerM f now).2 = (A.withSch (A.sch.pushM f).2).setWt f.client f.seq := by
  unfold AdmM.offerM at h0 ⊢
  by_cases hm : A.may f = true
  · rw [if_pos hm] at h0 ⊢
    by_cases hc : (A.waitM f now).1 ≠ 0 ∧ (A.waitM f now).1 ≠ 6
    · rw [if_pos hc] at h0; exact absurd h0 hc.1
    · rw [if_neg hc] at h0 ⊢
      unfold AdmM.waitM at h0 ⊢
      by_cases hb : A.barred f.client f.seq f.try_ = true
      · rw [if_pos hb] at h0; cases h0
      rw [if_neg hb] at h0 ⊢
      by_cases hs : A.wt f.client = f.seq
      · rw [if_pos hs] at h0; cases h0
      rw [if_neg hs] at h0 ⊢
      by_cases hz : A.wt f.client ≠ 0
      · rw [if_pos hz] at h0; cases h0
      rw [if_neg hz] at h0 ⊢
      by_cases hd : f.deadline < now
      · rw [if_pos hd] at h0; cases h0
      rw [if_neg hd] at h0 ⊢
      by_cases hp : (A.sch.pushM f).1 ≠ 0
      · rw [if_pos hp] at h0; cases h0
      rw [if_neg hp]
      exact ⟨hm, by simpa using hb, by simpa using hz, hd, by simpa using hp, rfl⟩
  · rw [if_neg hm] at h0; cases h0
theorem offer_10 {A : AdmM} {f : FrameM} (hm : A.may f = true) (now : Int) : (A.offerM f now).1 ≠ 10 := by
  unfold AdmM.offerM
  rw [if_pos hm]
  have : (A.waitM f now).1 ≠ 10 := by
    unfold AdmM.waitM
    repeat' split
    all_goals (dsimp only; omega)
  split <;> exact this
theorem push_same {S : SchM} {f : FrameM} (h : (S.pushM f).1 ≠ 0) : (S.pushM f).2 = S := by
  unfold SchM.pushM at h ⊢
  split
  · rfl
  · rename_i c hc
    rw [hc] at h
    dsimp only at h
    split
    · rfl
    · rename_i h1
      rw [if_neg h1] at h
      split
      · rename_i h2; rw [if_pos h2] at h; exact absurd rfl h
      · rfl
/-- What is not taken changes nothing of what waits. -/
theorem offer_not {A : AdmM} {f : FrameM} (now : Int) (h0 : (A.offerM f now).1 ≠ 0) : (A.offerM f now).2.sch = A.sch ∧ (A.offerM f now).2.waits = A.waits := by
  have key : (A.waitM f now).1 ≠ 0 → (A.waitM f now).2.sch = A.sch ∧ (A.waitM f now).2.waits = A.waits := by
    unfold AdmM.waitM
    intro h
    repeat' split
    all_goals first
      | exact ⟨rfl, rfl⟩
      | (rename_i hp; exact ⟨push_same hp, rfl⟩)
      | (simp_all)
  unfold AdmM.offerM at h0 ⊢
  by_cases hm : A.may f = true
  · rw [if_pos hm] at h0 ⊢
    by_cases hc : (A.waitM f now).1 ≠ 0 ∧ (A.waitM f now).1 ≠ 6
    · rw [if_pos hc]
      have := key hc.1
      refine ⟨(barM_sch _ _ _ _).trans this.1, ?_⟩
      rw [← this.2]
      show (AdmM.barM _ _ _ _).2.waits = _
      unfold AdmM.barM
      split
      · exact barF_waits _ _ _ _
      · rfl
    · rw [if_neg hc] at h0 ⊢
      exact key h0
  · rw [if_neg hm]; exact ⟨rfl, rfl⟩
end Go.Proofs.YtbbnmgakmcppdaaGreat.Adm
namespace Go.Proofs.YtbbnmgakmcppdaaGreat.Adm
open Go Go.Proofs.YtbbnmgakmcppdaaGreat.Vg Go.Proofs.YtbbnmgakmcppdaaGreat.Api Go.Proofs.YtbbnmgakmcppdaaGreat.Sched Go.Proofs.YtbbnmgakmcppdaaGreat.Conf
set_option linter.unusedSimpArgs false
set_option linter.unusedVariables false

/-! ### Lists -/
theorem nodup_len {α : Type} [DecidableEq α] : ∀ {l m : List α}, l.Nodup → (∀ x ∈ l, x ∈ m) → l.length ≤ m.length
  | [], _, _, _ => Nat.zero_le _
  | x :: l, m, h, hs => by
    have hx := hs x (by simp)
    have h2 := List.nodup_cons.1 h
    have := nodup_len (m := m.erase x) h2.2 fun y hy => (List.mem_erase_of_ne (fun e => h2.1 (by rw [← e]; exact hy))).2 (hs y (by simp [hy]))
    rw [List.length_erase_of_mem hx] at this
    have := List.length_pos_of_mem hx
    rw [List.length_cons]; omega
theorem nodup_same {α β : Type} {g : α → β} : ∀ {l : List α}, (l.map g).Nodup → ∀ {a b : α}, a ∈ l → b ∈ l → g a = g b → a = b
  | [], _, a, _, ha, _, _ => by simp at ha
  | x :: l, h, a, b, ha, hb, e => by
    rw [List.map_cons, List.nodup_cons] at h
    rcases List.mem_cons.1 ha with rfl | ha2
    · rcases List.mem_cons.1 hb with rfl | hb2
      · rfl
      · exact absurd (List.mem_map.2 ⟨b, hb2, e.symm⟩ : _ ∈ l.map g) h.1
    · rcases List.mem_cons.1 hb with rfl | hb2
      · exact absurd (List.mem_map.2 ⟨a, ha2, e⟩ : _ ∈ l.map g) h.1
      · exact nodup_same h.2 ha2 hb2 e
theorem flat_snoc {α : Type} {f : α} : ∀ {l : List (List α)} {k : Nat} {q : List α}, l[k]? = some q → (l.set k (q ++ [f])).flatten.Perm (f :: l.flatten)
  | x :: l, 0, q, h => by
    obtain rfl : x = q := by simpa using h
    rw [List.set_cons_zero, List.flatten_cons, List.flatten_cons, List.append_assoc]
    exact List.perm_middle
  | x :: l, k + 1, q, h => by
    rw [List.set_cons_succ, List.flatten_cons, List.flatten_cons]
    exact ((flat_snoc (l := l) (k := k) (by simpa using h)).append_left x).trans List.perm_middle
  | [], _, _, h => by simp at h
theorem flat_head {α : Type} {f : α} : ∀ {l : List (List α)} {k : Nat} {q : List α}, l[k]? = some (f :: q) → l.flatten.Perm (f :: (l.set k q).flatten)
  | x :: l, 0, q, h => by
    obtain rfl : x = f :: q := by simpa using h
    rw [List.set_cons_zero, List.flatten_cons, List.flatten_cons]
    exact .refl _
  | x :: l, k + 1, q, h => by
    rw [List.set_cons_succ, List.flatten_cons, List.flatten_cons]
    exact ((flat_head (l := l) (k := k) (by simpa using h)).append_left x).trans List.perm_middle
  | [], _, _, h => by simp at h

/-! ### Who waits -/
def AdmM.all (A : AdmM) : List FrameM := A.sch.qs.flatten
structure SInv (nc : Int) (m cap : Nat) (A : AdmM) : Prop where
  wf : A.Wf
  clients : A.clients = nc
  len : A.sch.cls.length = m
  cap : A.sch.cap = cap
  may : ∀ f ∈ A.all, A.may f = true
  uniq : (A.all.map FrameM.client).Nodup
  wt : ∀ f ∈ A.all, A.wt f.client = f.seq
  back : ∀ k, 0 ≤ k → k < nc → A.wt k ≠ 0 → ∃ f ∈ A.all, f.client = k
theorem may_congr {A B : AdmM} (h1 : B.clients = A.clients) (h2 : B.sch.cls.length = A.sch.cls.length) (f : FrameM) : B.may f = A.may f := by
  simp only [AdmM.may, AdmM.has, h1, h2]
theorem SInv.calls {nc : Int} {m cap : Nat} {A : AdmM} (h : SInv nc m cap A) : A.Calls := fun q hq f hf => by
  obtain ⟨h1, h2, h3⟩ := may_client (h.may f (List.mem_flatten.2 ⟨q, hq, hf⟩))
  exact ⟨(has_iff _ _).1 h1, h2, h3⟩
theorem SInv.range {nc : Int} {m cap : Nat} {A : AdmM} (h : SInv nc m cap A) {f : FrameM} (hf : f ∈ A.all) : 0 ≤ f.client ∧ f.client < nc := by
  obtain ⟨h1, _, _⟩ := may_client (h.may f hf)
  have := (has_iff _ _).1 h1
  rw [h.clients] at this; exact this
theorem SInv.seq {nc : Int} {m cap : Nat} {A : AdmM} (h : SInv nc m cap A) {f : FrameM} (hf : f ∈ A.all) : f.seq ≠ 0 := by
  obtain ⟨_, h2, _⟩ := may_client (h.may f hf)
  simp only [numM, Bool.and_eq_true, decide_eq_true_eq] at h2
  omega
theorem SInv.six {nc : Int} {m cap : Nat} {A : AdmM} (h : SInv nc m cap A) : nc ≤ 6 := by have := h.wf.c1; rw [h.clients] at this; exact this
/-- Nothing of what waits is another one. -/
theorem SInv.same {nc : Int} {m cap : Nat} {A B : AdmM} (h : SInv nc m cap A) (hw : B.Wf) (hc : B.clients = A.clients) (hs : B.sch = A.sch) (hwt : B.waits = A.waits) : SInv nc m cap B := by
  have hall : B.all = A.all := by rw [AdmM.all, AdmM.all, hs]
  have hwt2 : ∀ k, B.wt k = A.wt k := fun k => by rw [AdmM.wt, AdmM.wt, hwt]
  refine ⟨hw, hc.trans h.clients, by rw [hs]; exact h.len, by rw [hs]; exact h.cap, fun f hf => ?_, by rw [hall]; exact h.uniq, fun f hf => ?_, fun k h1 h2 h3 => ?_⟩
  · rw [may_congr (A := A) hc (by rw [hs])]; exact h.may f (hall ▸ hf)
  · rw [hwt2]; exact h.wt f (hall ▸ hf)
  · rw [hwt2] at h3; rw [hall]; exact h.back k h1 h2 h3

theorem SInv.offer {nc : Int} {m cap : Nat} {A : AdmM} (h : SInv nc m cap A) (f : FrameM) (now : Int) : SInv nc m cap (A.offerM f now).2 := by
  by_cases h0 : (A.offerM f now).1 = 0
  · obtain ⟨hm, hb, hz, hd, hp, e⟩ := offer_in h0
    obtain ⟨h1, h2, h3⟩ := may_client hm
    obtain ⟨⟨k, hk, hlt⟩, ho⟩ := may_cls hm
    have hr := (has_iff _ _).1 h1
    have h6 := h.six
    have hr6 : 0 ≤ f.client ∧ f.client < 6 := ⟨hr.1, by have := h.clients; omega⟩
    have hq : A.sch.qs[k]? = some (A.sch.cls[k].q) := by simp [SchM.qs, List.getElem?_eq_getElem hlt]
    obtain ⟨p1, p2, p3⟩ := push_qs hk hq ho
    have hlt2 : (A.sch.cls[k].q).length < A.sch.cap := by
      apply Decidable.byContradiction
      intro hn; rw [if_neg hn] at p1; rw [p1] at hp; cases hp
    rw [if_pos hlt2] at p2
    have hperm : ((A.offerM f now).2).all.Perm (f :: A.all) := by
      rw [e]; show (A.sch.pushM f).2.qs.flatten.Perm _
      rw [p2]; exact flat_snoc hq
    have hwf := offer_wf h.wf f now
    have hcl := offer_clients A f now
    have hlen : (A.offerM f now).2.sch.cls.length = A.sch.cls.length := by rw [e]; exact push_len A.sch f
    have hwt : ∀ j, 0 ≤ j → (A.offerM f now).2.wt j = if j = f.client then f.seq else A.wt j := fun j hj => by
      rw [e, wt_setWt (h.wf.withSch (push_wf h.wf.sch f)) hr6 hj]; rfl
    have hnew : ∀ g ∈ A.all, g.client ≠ f.client := fun g hg e2 => by
      have := h.wt g hg
      rw [e2, hz] at this
      exact h.seq hg this.symm
    refine ⟨hwf, hcl.trans h.clients, hlen.trans h.len, by rw [e]; exact p3.trans h.cap, fun g hg => ?_, ?_, fun g hg => ?_, fun j hj hj2 hj3 => ?_⟩
    · rw [may_congr (A := A) hcl hlen]
      rcases List.mem_cons.1 (hperm.mem_iff.1 hg) with rfl | hg
      · exact hm
      · exact h.may g hg
    · rw [(hperm.map FrameM.client).nodup_iff, List.map_cons, List.nodup_cons]
      refine ⟨fun hmem => ?_, h.uniq⟩
      obtain ⟨g, hg, e2⟩ := List.mem_map.1 hmem
      exact hnew g hg e2
    · rcases List.mem_cons.1 (hperm.mem_iff.1 hg) with rfl | hg
      · rw [hwt _ hr.1, if_pos rfl]
      · rw [hwt _ (h.range hg).1, if_neg (hnew g hg)]; exact h.wt g hg
    · rw [hwt j hj] at hj3
      by_cases ej : j = f.client
      · exact ⟨f, hperm.mem_iff.2 (by simp), ej.symm⟩
      · rw [if_neg ej] at hj3
        obtain ⟨g, hg, e2⟩ := h.back j hj hj2 hj3
        exact ⟨g, hperm.mem_iff.2 (by simp [hg]), e2⟩
  · obtain ⟨h1, h2⟩ := offer_not now h0
    exact h.same (offer_wf h.wf f now) (offer_clients A f now) h1 h2

theorem expF_wt : ∀ (l : List FrameM) {A : AdmM}, A.Wf → (∀ f ∈ l, 0 ≤ f.client ∧ f.client < 6) → ∀ {j : Int}, 0 ≤ j → (A.expF l).wt j = if (l.any fun f => f.client == j) = true then 0 else A.wt j
  | [], A, _, _, j, _ => by simp [AdmM.expF]
  | f :: l, A, h, hf, j, hj => by
    have ih := expF_wt l (h.out f) (fun g hg => hf g (by simp [hg])) hj
    have e1 : (A.out f).wt j = if j = f.client then 0 else A.wt j := by
      rw [← wt_setWt h (hf f (by simp)) hj 0]
      simp only [AdmM.wt, AdmM.out, barF_waits]
    show (AdmM.expF (A.out f) l).wt j = _
    rw [ih, e1, List.any_cons]
    by_cases e : f.client = j
    · subst e; simp
    · have : (f.client == j) = false := by simpa using e
      rw [this, Bool.false_or, if_neg (show ¬ j = f.client from fun x => e x.symm)]
theorem all_exp {A : AdmM} (h : A.Wf) (now : Int) : (A.expireM now).all = A.all.filter (stay now) := by
  rw [AdmM.all, (expire_wf h now).2.2, exp_qs, AdmM.all, List.filter_flatten]
theorem gone_all (A : AdmM) (now : Int) : A.sch.goneM now = A.all.filter (gone now) := by
  rw [gone_qs, AdmM.all, List.filter_flatten, List.flatMap_def]
theorem SInv.expire {nc : Int} {m cap : Nat} {A : AdmM} (h : SInv nc m cap A) (now : Int) : SInv nc m cap (A.expireM now) := by
  obtain ⟨hwf, hcl, hs⟩ := expire_wf h.wf now
  have h6 := h.six
  have hall := all_exp h.wf now
  have hlen : (A.expireM now).sch.cls.length = A.sch.cls.length := by rw [hs]; exact exp_len _ _
  have hg6 : ∀ f ∈ A.sch.goneM now, 0 ≤ f.client ∧ f.client < 6 := fun f hf => by
    rw [gone_all] at hf
    have := h.range (List.mem_filter.1 hf).1
    omega
  have hwt : ∀ j, 0 ≤ j → (A.expireM now).wt j = if ((A.sch.goneM now).any fun f => f.client == j) = true then 0 else A.wt j := fun j hj =>
    expF_wt _ (h.wf.withSch (exp_wf h.wf.sch now)) hg6 hj
  refine ⟨hwf, hcl.trans h.clients, hlen.trans h.len, by rw [hs]; exact h.cap, fun f hf => ?_, ?_, fun f hf => ?_, fun k hk hk2 hk3 => ?_⟩
  · rw [may_congr (A := A) hcl hlen]
    rw [hall] at hf
    exact h.may f (List.mem_filter.1 hf).1
  · rw [hall]
    exact h.uniq.sublist (List.filter_sublist.map _)
  · rw [hall] at hf
    obtain ⟨hf1, hf2⟩ := List.mem_filter.1 hf
    rw [hwt _ (h.range hf1).1, if_neg]
    · exact h.wt f hf1
    · intro ha
      obtain ⟨g, hg, e⟩ := List.any_eq_true.1 ha
      rw [gone_all] at hg
      obtain ⟨hg1, hg2⟩ := List.mem_filter.1 hg
      have : g = f := nodup_same h.uniq hg1 hf1 (eq_of_beq e)
      subst this
      simp [stay, hg2] at hf2
  · rw [hwt k hk] at hk3
    split at hk3
    · exact absurd rfl hk3
    · rename_i hn
      obtain ⟨f, hf, e⟩ := h.back k hk hk2 hk3
      refine ⟨f, ?_, e⟩
      rw [hall]
      refine List.mem_filter.2 ⟨hf, ?_⟩
      cases hgf : gone now f with
      | false => simp [stay, hgf]
      | true => exact absurd (List.any_eq_true.2 ⟨f, by rw [gone_all]; exact List.mem_filter.2 ⟨hf, hgf⟩, by simp [e]⟩) hn
theorem SInv.next {nc : Int} {m cap : Nat} {A : AdmM} (h : SInv nc m cap A) (now : Int) : SInv nc m cap (A.nextM now) := by
  have h := h.expire now
  unfold AdmM.nextM
  generalize A.expireM now = B at h ⊢
  have h6 := h.six
  cases ho : (popV B.sch).2.1 with
  | false =>
    obtain ⟨_, e⟩ := popV_no h.wf.sch ho
    rw [if_neg (by simp)]
    exact h.same (h.wf.withSch (popV_wf h.wf.sch)) rfl e rfl
  | true =>
    rw [if_pos rfl]
    obtain ⟨k, q, hk, hq⟩ := popV_ok h.wf.sch ho
    have hcap : (popV B.sch).2.2.cap = B.sch.cap := by
      unfold popV at ho ⊢
      cases hp : B.sch.popM with
      | none => rfl
      | some r => obtain ⟨f, S1⟩ := r; obtain ⟨_, _, _, _, hc, _⟩ := popM_some h.wf.sch hp; exact hc
    generalize (popV B.sch).1 = g at hk ⊢
    have hperm : B.all.Perm (g :: (popV B.sch).2.2.qs.flatten) := by rw [hq]; exact flat_head hk
    have hg : g ∈ B.all := hperm.mem_iff.2 (by simp)
    have hgr := h.range hg
    have hg6 : 0 ≤ g.client ∧ g.client < 6 := by omega
    have hlen := popV_len h.wf.sch
    have hW : ((B.withSch (popV B.sch).2.2).setWt g.client 0).all = (popV B.sch).2.2.qs.flatten := rfl
    have hu := (hperm.map FrameM.client).nodup_iff.1 h.uniq
    rw [List.map_cons, List.nodup_cons] at hu
    have hwf := (h.wf.withSch (popV_wf h.wf.sch))
    have hwt : ∀ j, 0 ≤ j → ((B.withSch (popV B.sch).2.2).setWt g.client 0).wt j = if j = g.client then 0 else B.wt j := fun j hj => by
      rw [wt_setWt hwf hg6 hj]; rfl
    refine ⟨hwf.setWt _ _, h.clients, hlen.trans h.len, hcap.trans h.cap, fun f hf => ?_, hu.2, fun f hf => ?_, fun j hj hj2 hj3 => ?_⟩
    · rw [may_congr (A := B) (B := (B.withSch (popV B.sch).2.2).setWt g.client 0) rfl hlen]
      exact h.may f (hperm.mem_iff.2 (List.mem_cons_of_mem _ hf))
    · have hf2 : f ∈ B.all := hperm.mem_iff.2 (List.mem_cons_of_mem _ hf)
      rw [hwt _ (h.range hf2).1, if_neg (fun e => hu.1 (List.mem_map.2 ⟨f, hf, e⟩))]
      exact h.wt f hf2
    · rw [hwt j hj] at hj3
      split at hj3
      · exact absurd rfl hj3
      · rename_i hn
        obtain ⟨f, hf, e⟩ := h.back j hj hj2 hj3
        rcases List.mem_cons.1 (hperm.mem_iff.1 hf) with rfl | hf
        · exact absurd e.symm hn
        · exact ⟨f, hf, e⟩

/-! ### As many wait as clients have one -/
def AdmM.cnt (A : AdmM) (n : Nat) : Nat := ((List.range n).filter fun k : Nat => !(A.wt k == 0)).length
theorem cnt_succ (A : AdmM) (n : Nat) : A.cnt (n + 1) = A.cnt n + if A.wt n = 0 then 0 else 1 := by
  rw [AdmM.cnt, List.range_succ, List.filter_append, List.length_append, AdmM.cnt]
  by_cases h : A.wt n = 0 <;> simp [h]
theorem SInv.count {nc : Int} {m cap : Nat} {A : AdmM} (h : SInv nc m cap A) : A.all.length = A.cnt nc.toNat := by
  have hn0 : 0 ≤ nc := by have := h.wf.c0; rw [h.clients] at this; omega
  have e1 : A.cnt nc.toNat = (((List.range nc.toNat).filter fun k : Nat => !(A.wt k == 0)).map fun k : Nat => (k : Int)).length := by rw [List.length_map]; rfl
  have hnd : (((List.range nc.toNat).filter fun k : Nat => !(A.wt k == 0)).map fun k : Nat => (k : Int)).Nodup := by
    rw [List.Nodup, List.pairwise_map]
    have : ((List.range nc.toNat).filter fun k : Nat => !(A.wt k == 0)).Nodup := List.nodup_range.sublist List.filter_sublist
    exact this.imp fun h e => h (by omega)
  apply Nat.le_antisymm
  · rw [e1, show A.all.length = (A.all.map FrameM.client).length from (List.length_map _).symm]
    refine nodup_len h.uniq fun x hx => ?_
    obtain ⟨f, hf, rfl⟩ := List.mem_map.1 hx
    have hr := h.range hf
    refine List.mem_map.2 ⟨f.client.toNat, List.mem_filter.2 ⟨List.mem_range.2 (by omega), ?_⟩, by omega⟩
    have e : ((f.client.toNat : Nat) : Int) = f.client := by omega
    rw [e, h.wt f hf]
    simpa using h.seq hf
  · rw [e1, show A.all.length = (A.all.map FrameM.client).length from (List.length_map _).symm]
    refine nodup_len hnd fun x hx => ?_
    obtain ⟨k, hk, rfl⟩ := List.mem_map.1 hx
    obtain ⟨hk1, hk2⟩ := List.mem_filter.1 hk
    have hk1 := List.mem_range.1 hk1
    obtain ⟨f, hf, e⟩ := h.back k (by omega) (by omega) (by simpa using hk2)
    exact List.mem_map.2 ⟨f, hf, e⟩
theorem SInv.start (c : ConfM) : SInv (fitM c).clients (fitM c).qs.length (fitM c).queue.toNat (newA (fitM c)) := by
  have hall : (newA (fitM c)).all = [] := by
    have : ∀ l : List Int, (l.map fun _ => ([] : List FrameM)).flatten = [] := fun l => by induction l <;> simp_all
    show ((SchM.new (fitM c).qs (fitM c).queue).cls.map ClsM.q).flatten = []
    simp only [SchM.new, List.map_map]
    exact this _
  refine ⟨newA_wf (fit_idem c), rfl, by simp [newA, SchM.new], rfl, fun f hf => ?_, ?_, fun f hf => ?_, fun k h1 h2 h3 => ?_⟩
  · rw [hall] at hf; simp at hf
  · rw [hall]; simp
  · rw [hall] at hf; simp at hf
  · exfalso; apply h3
    simp only [AdmM.wt, newA]
    cases hk : (List.replicate 6 (0 : Int))[k.toNat]? with
    | none => rfl
    | some v => exact List.eq_of_mem_replicate (List.mem_of_getElem? hk)
end Go.Proofs.YtbbnmgakmcppdaaGreat.Adm
namespace Go.Proofs.YtbbnmgakmcppdaaGreat.Rep
open Go Go.Proofs.YtbbnmgakmcppdaaGreat.Vg Go.Proofs.YtbbnmgakmcppdaaGreat.T Go.Proofs.YtbbnmgakmcppdaaGreat.Api Go.Proofs.YtbbnmgakmcppdaaGreat.Kv Go.Proofs.YtbbnmgakmcppdaaGreat.Ch Go.Proofs.YtbbnmgakmcppdaaGreat.Lg Go.Proofs.YtbbnmgakmcppdaaGreat.Rd Go.Proofs.YtbbnmgakmcppdaaGreat.Win Go.Proofs.YtbbnmgakmcppdaaGreat.Adm Go.Proofs.YtbbnmgakmcppdaaGreat.Sched Go.Proofs.YtbbnmgakmcppdaaGreat.Conf
set_option linter.unusedSimpArgs false
set_option linter.unusedVariables false

/-! ### Admission: what waits -/
theorem tot_all (A : AdmM) : tot A = A.all.length := by
  rw [AdmM.all, List.length_flatten]; rfl
/-- Some admission, of which each client waits but once. -/
def SI (A : AdmM) : Prop := ∃ nc m cap, SInv nc m cap A
theorem SI.offer {A : AdmM} (h : SI A) (f : FrameM) (now : Int) : SI (A.offerM f now).2 := by
  obtain ⟨nc, m, cap, h⟩ := h; exact ⟨nc, m, cap, h.offer f now⟩
theorem SI.next {A : AdmM} (h : SI A) (now : Int) : SI (A.nextM now) := by
  obtain ⟨nc, m, cap, h⟩ := h; exact ⟨nc, m, cap, h.next now⟩
theorem barM_waits (A : AdmM) (k s t : Int) : (A.barM k s t).2.waits = A.waits := by
  unfold AdmM.barM; split; exact barF_waits _ _ _ _; rfl
theorem barM_all (A : AdmM) (k s t : Int) : (A.barM k s t).2.all = A.all := by rw [AdmM.all, AdmM.all, barM_sch]
theorem SI.bar {A : AdmM} (h : SI A) (k s t : Int) : SI (A.barM k s t).2 := by
  obtain ⟨nc, m, cap, h⟩ := h
  exact ⟨nc, m, cap, h.same (h.wf.barM _ _ _) (barM_clients A k s t) (barM_sch A k s t) (barM_waits A k s t)⟩
theorem SI.one {A : AdmM} (h : SI A) (h0 : ∀ f ∈ A.all, f.client = 0) : A.all.length ≤ 1 := by
  obtain ⟨nc, m, cap, h⟩ := h
  have hu := h.uniq
  match hA : A.all, hu with
  | [], _ => exact Nat.zero_le _
  | [x], _ => exact Nat.le_refl _
  | x :: y :: l, hu =>
    exfalso
    have h1 := h0 x (by rw [hA]; simp)
    have h2 := h0 y (by rw [hA]; simp)
    rw [List.map_cons, List.map_cons, List.nodup_cons] at hu
    exact hu.1 (by rw [h1, ← h2]; simp)
theorem offer_all {A : AdmM} (f : FrameM) (now : Int) : (∀ g ∈ (A.offerM f now).2.all, g = f ∨ g ∈ A.all) ∧ (A.offerM f now).2.all.length ≤ A.all.length + 1 := by
  by_cases h0 : (A.offerM f now).1 = 0
  · obtain ⟨hm, hb, hz, hd, hp, e⟩ := offer_in h0
    obtain ⟨⟨k, hk, hlt⟩, ho⟩ := may_cls hm
    have hq : A.sch.qs[k]? = some (A.sch.cls[k].q) := by simp [SchM.qs, List.getElem?_eq_getElem hlt]
    obtain ⟨p1, p2, p3⟩ := push_qs hk hq ho
    have hlt2 : (A.sch.cls[k].q).length < A.sch.cap := by
      apply Decidable.byContradiction
      intro hn; rw [if_neg hn] at p1; rw [p1] at hp; cases hp
    rw [if_pos hlt2] at p2
    have hperm : ((A.offerM f now).2).all.Perm (f :: A.all) := by
      rw [e]; show (A.sch.pushM f).2.qs.flatten.Perm _
      rw [p2]; exact flat_snoc hq
    exact ⟨fun g hg => by simpa using hperm.mem_iff.1 hg, by rw [hperm.length_eq]; simp⟩
  · obtain ⟨h1, h2⟩ := offer_not now h0
    have : (A.offerM f now).2.all = A.all := by rw [AdmM.all, AdmM.all, h1]
    rw [this]
    exact ⟨fun g hg => .inr hg, by omega⟩
theorem next_all {A : AdmM} (h : A.Wf) (now : Int) : (∀ g ∈ (A.nextM now).all, g ∈ A.all) ∧ (A.nextM now).all.length ≤ A.all.length := by
  have hall := all_exp h now
  have hB := (expire_wf h now).1
  have hl : (A.expireM now).all.length ≤ A.all.length := by rw [hall]; exact List.length_filter_le _ _
  have hm : ∀ g ∈ (A.expireM now).all, g ∈ A.all := fun g hg => by rw [hall] at hg; exact (List.mem_filter.1 hg).1
  have hsub : (A.nextM now).all.Sublist (A.expireM now).all ∨ (A.nextM now).all.length ≤ (A.expireM now).all.length ∧ ∀ g ∈ (A.nextM now).all, g ∈ (A.expireM now).all := by
    refine .inr ?_
    unfold AdmM.nextM
    generalize A.expireM now = B at hB ⊢
    cases ho : (popV B.sch).2.1 with
    | false =>
      obtain ⟨_, e⟩ := popV_no hB.sch ho
      rw [if_neg (by simp), e]
      exact ⟨Nat.le_refl _, fun g hg => hg⟩
    | true =>
      rw [if_pos rfl]
      obtain ⟨k, q, hk, hq⟩ := popV_ok hB.sch ho
      have hperm : B.all.Perm ((popV B.sch).1 :: (popV B.sch).2.2.qs.flatten) := by rw [hq]; exact flat_head hk
      have hW : ((B.withSch (popV B.sch).2.2).setWt (popV B.sch).1.client 0).all = (popV B.sch).2.2.qs.flatten := rfl
      rw [hW]
      exact ⟨by rw [hperm.length_eq]; simp, fun g hg => hperm.mem_iff.2 (by simp [hg])⟩
  rcases hsub with hs | ⟨h1, h2⟩
  · exact ⟨fun g hg => hm g (hs.subset hg), Nat.le_trans hs.length_le hl⟩
  · exact ⟨fun g hg => hm g (h2 g hg), Nat.le_trans h1 hl⟩
theorem next_none {R : RepM} (h : R.Ok) (now : Int) (ho : nextOk R now = false) : (R.adm.nextM now).all = [] := by
  have hB := (expire_wf h.wf now).1
  obtain ⟨h1, e⟩ := popV_no hB.sch ho
  have e3 : (R.adm.nextM now).all = (R.adm.expireM now).all := by
    unfold AdmM.nextM
    rw [if_neg (by rw [nextOk] at ho; rw [ho]; simp), e]; rfl
  rw [e3, AdmM.all, List.flatten_eq_nil_iff]
  intro q hq
  rw [idle_qs] at h1
  simpa using List.all_eq_true.1 h1 q hq

/-! ### Logs -/
def LogOk (es : List EntryM) : Prop := ∀ (k : Nat) (e : EntryM), es[k]? = some e → logErr (es.take k) e = 0
theorem LogOk.snoc {es : List EntryM} (h : LogOk es) {e : EntryM} (he : logErr es e = 0) : LogOk (es ++ [e]) := by
  intro k x hx
  by_cases hk : k < es.length
  · rw [List.getElem?_append_left hk] at hx
    rw [List.take_append_of_le_length (by omega)]
    exact h k x hx
  · by_cases hk2 : k = es.length
    · subst hk2
      rw [List.getElem?_append_right (Nat.le_refl _), Nat.sub_self] at hx
      obtain rfl : e = x := by simpa using hx
      rw [List.take_append_of_le_length (Nat.le_refl _), List.take_length]; exact he
    · rw [List.getElem?_eq_none (by rw [List.length_append]; simp; omega)] at hx; cases hx
theorem LogOk.idx {es : List EntryM} (h : LogOk es) {k : Nat} {e : EntryM} (he : es[k]? = some e) : e.index = k + 1 := by
  have hk := (List.getElem?_eq_some_iff.1 he).1
  have := (logErr_ok (h k e he)).2.2.1
  rw [List.length_take, Nat.min_eq_left (by omega)] at this
  exact this
theorem pre_at {a b : List EntryM} (h : a <+: b) {k : Nat} {e : EntryM} (he : a[k]? = some e) : b[k]? = some e := by
  obtain ⟨c, rfl⟩ := h
  rw [List.getElem?_append_left (List.getElem?_eq_some_iff.1 he).1]; exact he
theorem pre_eq {a b : List EntryM} (h : a <+: b) (hl : b.length ≤ a.length) : a = b := h.eq_of_length_le hl

/-! ### The head -/
structure HdI (W : Int) (seq : Nat) (R : RepM) : Prop where
  fit : R.Fit
  ch : R.ch = chT2
  id : R.id = 0
  since : R.since = 1
  whole : R.whole = true
  rl : R.rds.l = []
  rlast : R.rds.last = 0
  lok : LogOk R.log
  ahead : R.win.last ≤ R.win.done + R.win.cap
  cap : R.win.cap = W
  si : SI R.adm
  cl : ∀ f ∈ R.adm.all, f.client = 0
  cnt : R.log.length + R.adm.all.length ≤ seq
theorem HdI.more {W : Int} {n m : Nat} {R : RepM} (h : HdI W n R) (hm : n ≤ m) : HdI W m R := { h with cnt := Nat.le_trans h.cnt hm }
theorem HdI.tail {W : Int} {n : Nat} {R : RepM} (h : HdI W n R) : R.tailB = false := by rw [RepM.tailB, RepM.inB, h.since, h.ch, chT2_is.2.1, h.id]; rfl
theorem HdI.head {W : Int} {n : Nat} {R : RepM} (h : HdI W n R) : R.headB = true := by rw [RepM.headB, RepM.inB, h.since, h.ch, chT2_is.1, h.id]; rfl
theorem HdI.prev {W : Int} {n : Nat} {R : RepM} (h : HdI W n R) : R.prevM = -1 := by rw [RepM.prevM, h.ch, h.id, chT2_is.2.2.2.2.1]
theorem HdI.next {W : Int} {n : Nat} {R : RepM} (h : HdI W n R) : R.nextM = 1 := by rw [RepM.nextM, h.ch, h.id, chT2_is.2.2.2.1]
theorem HdI.drains {W : Int} {n : Nat} {R : RepM} (h : HdI W n R) : R.drainsB = false := by rw [RepM.drainsB, h.ch, h.id]; simp [chT2]
theorem HdI.greet {W : Int} {n : Nat} {R : RepM} (h : HdI W n R) : R.greetM = [] := by rw [RepM.greetM, h.prev, if_pos (by decide)]
theorem HdI.one {W : Int} {n : Nat} {R : RepM} (h : HdI W n R) : R.adm.all.length ≤ 1 := h.si.one h.cl
/-- What stays at the head, whatever it does but hear of its next one. -/
structure Gr (R Q : RepM) : Prop where
  log : R.log <+: Q.log
  done : Q.win.done = R.win.done
  limit : Q.win.limit = R.win.limit
  linked : Q.linked = R.linked
  have_ : Q.have_ = R.have_
  all : Q.adm.all.length ≤ R.adm.all.length
theorem Gr.refl (R : RepM) : Gr R R := ⟨List.prefix_refl _, rfl, rfl, rfl, rfl, Nat.le_refl _⟩
theorem Gr.trans {R Q P : RepM} (h : Gr R Q) (k : Gr Q P) : Gr R P := ⟨h.log.trans k.log, k.done.trans h.done, k.limit.trans h.limit, k.linked.trans h.linked, k.have_.trans h.have_, Nat.le_trans k.all h.all⟩
def OkS (es : List EntryM) (m : SndM) : Prop := m.1 = 1 → (∃ (k : Nat) (e : EntryM), es[k]? = some e ∧ m.2 = fwdE e) ∨ ∃ i : Int, m.2 = baseF 1 i
theorem OkS.of {es : List EntryM} {m : SndM} (h : m.1 ≠ 1) : OkS es m := fun e => absurd e h
theorem OkS.mono {es fs : List EntryM} {m : SndM} (h : OkS es m) (hp : es <+: fs) : OkS fs m := fun e => by
  rcases h e with ⟨k, x, h1, h2⟩ | h1
  · exact .inl ⟨k, x, pre_at hp h1, h2⟩
  · exact .inr h1
theorem hd_adm {W : Int} {n m : Nat} {R : RepM} (h : HdI W n R) {A : AdmM} (hC : A.Calls) (hW : A.Wf) (hs : SI A) (hc : ∀ f ∈ A.all, f.client = 0) (hn : R.log.length + A.all.length ≤ m) : HdI W m { R with adm := A } :=
  ⟨h.fit.stays ⟨rfl, rfl, rfl, rfl, rfl⟩ (adm_ok h.fit.ok hC hW), h.ch, h.id, h.since, h.whole, h.rl, h.rlast, h.lok, h.ahead, h.cap, hs, hc, hn⟩
/-! ### A call comes -/
def callF (s : Int) : FrameM := { putM 0 s 1 1 with deadline := 999 }
theorem upd_form (R : RepM) (f : FrameM) (now : Int) : ∃ A, (updateR R f now).1 = { R with adm := A } ∧ (A = R.adm ∨ A = (R.adm.offerM f now).2 ∨ ∃ k s t, A = (R.adm.barM k s t).2 ∨ A = ((R.adm.offerM f now).2.barM k s t).2) ∧ ∀ m ∈ (updateR R f now).2, m.1 = 32 + f.client := by
  have hj := judge_adm R f now
  unfold updateR
  generalize judgeM R f now = J at hj ⊢
  repeat' split
  · exact ⟨_, rfl, hj.elim .inl fun h => .inr (.inl h), fun m hm => by rw [List.mem_singleton.1 hm]⟩
  · exact ⟨_, rfl, hj.elim .inl fun h => .inr (.inl h), fun m hm => absurd hm List.not_mem_nil⟩
  · exact ⟨_, rfl, .inr (.inr ⟨f.client, f.seq, f.try_, hj.elim (fun h => .inl (by rw [h])) fun h => .inr (by rw [h])⟩), fun m hm => by rw [List.mem_singleton.1 hm]⟩
  · exact ⟨_, rfl, hj.elim .inl fun h => .inr (.inl h), fun m hm => by rw [List.mem_singleton.1 hm]⟩
theorem hd_call {W : Int} {n : Nat} {R : RepM} (h : HdI W n R) (s now : Int) : ∃ A, (takeR R 32 (callF s) [] now).1 = { R with adm := A } ∧ HdI W (n + 1) { R with adm := A } ∧ ∀ m ∈ (takeR R 32 (callF s) [] now).2, m.1 = 32 := by
  have hk := takeR_fit h.fit (by rw [h.rlast]; decide) 32 (callF s) [] now
  by_cases hc : R.clients ≤ 0
  · have e : takeR R 32 (callF s) [] now = (R, []) := by
      have h1 : (callF s).kind = 1 := rfl
      have h2 : ¬ (callF s).client < 0 := by show ¬ (0 : Int) < 0; omega
      have h3 : R.clients ≤ (callF s).client := hc
      unfold takeR
      rw [if_pos h1, if_neg h2, if_pos h3]
    rw [e]
    exact ⟨R.adm, rfl, h.more (Nat.le_succ n), fun m hm => absurd hm List.not_mem_nil⟩
  have e : takeR R 32 (callF s) [] now = updateR R (callF s) now := by
    rw [take_call rfl (by show (0 : Int) ≤ 0; omega) (by show (0 : Int) < R.clients; omega), if_neg (by show ¬ (readsB ⟨2, ⟨#[107]⟩, ⟨#[118]⟩, 0⟩ = true); decide +kernel)]
  rw [e] at hk ⊢
  obtain ⟨A, e1, hA, hm⟩ := upd_form R (callF s) now
  rw [e1] at hk ⊢
  have ho := offer_all (A := R.adm) (callF s) now
  have h2 : SI A ∧ (∀ g ∈ A.all, g = callF s ∨ g ∈ R.adm.all) ∧ A.all.length ≤ R.adm.all.length + 1 := by
    rcases hA with rfl | rfl | ⟨k, s1, t, rfl | rfl⟩
    · exact ⟨h.si, fun g hg => .inr hg, by omega⟩
    · exact ⟨h.si.offer _ _, ho⟩
    · rw [barM_all]; exact ⟨h.si.bar _ _ _, fun g hg => .inr hg, by omega⟩
    · rw [barM_all]; exact ⟨(h.si.offer _ _).bar _ _ _, ho⟩
  have hcnt := h.cnt
  refine ⟨A, rfl, hd_adm h hk.ok.calls hk.ok.wf h2.1 (fun f hf => ?_) (by omega), fun m hm2 => by rw [hm m hm2]; rfl⟩
  rcases h2.2.1 f hf with rfl | hf
  · rfl
  · exact h.cl f hf

/-! ### The head's Tick -/
theorem hd_tick {W : Int} {n : Nat} {R : RepM} (h : HdI W n R) : HdI W n (tickR R).1 ∧ Gr R (tickR R).1 ∧ (tickR R).1.adm = R.adm ∧ (tickR R).1.log = R.log ∧ (R.linked = true → (tickR R).1.win.sent = min (max R.have_ 0) R.win.last) ∧ (tickR R).2 = [(16, aliveF 1 1), (1, baseF 1 R.start)] := by
  have hf := tickR_fit h.fit
  have ho : (tickR R).2 = [(16, aliveF 1 1), (1, baseF 1 R.start)] := by
    show R.masterM ++ R.greetM ++ R.baseM ++ (if (!R.rds.l.isEmpty) = true then [(16, confirmF R.ch.epoch R.rds.lastI)] else []) ++ (if R.drainsB = true ∧ R.win.done = R.win.last then [(16, drainedF R.ch.epoch)] else []) = _
    rw [h.greet, h.rl, if_neg (by simp), h.drains, if_neg (by simp), RepM.baseM, h.next, if_pos ⟨h.whole, by decide⟩, RepM.masterM, h.whole, h.ch]
    rfl
  have e : (tickR R).1 = tick1 R := rfl
  rw [e] at hf ⊢
  unfold tick1 at hf ⊢
  cases hl : R.linked with
  | false =>
    rw [hl, if_neg (by simp)] at hf
    rw [if_neg (by simp)]
    exact ⟨h, Gr.refl R, rfl, rfl, (fun h => by cases h), ho⟩
  | true =>
    rw [hl, if_pos rfl] at hf
    rw [if_pos rfl]
    exact ⟨⟨hf, h.ch, h.id, h.since, h.whole, h.rl, h.rlast, h.lok, h.ahead, h.cap, h.si, h.cl, h.cnt⟩, ⟨List.prefix_refl _, rfl, rfl, hl.symm, rfl, Nat.le_refl _⟩, rfl, rfl, (fun _ => rfl), ho⟩

/-! ### The head's Step -/
theorem refs_one {n e r : Int} {gs : List FrameM} (h : ∀ f ∈ gs, okC n f) : ∀ m ∈ refs e gs r, m.1 ≠ 1 := by
  intro m hm
  obtain ⟨f, hf, rfl⟩ := List.mem_map.1 hm
  have := (h f hf).1.1
  show 32 + f.client ≠ 1; omega
theorem hd_serve {W : Int} {n : Nat} {R : RepM} (h : HdI W n R) (hr : R.win.room = true) (now : Int) :
    HdI W n (serveR R now).1 ∧ Gr R (serveR R now).1 ∧ (serveR R now).1.win.sent = R.win.sent ∧ (∀ m ∈ (serveR R now).2.1, m.1 ≠ 1) ∧ ((serveR R now).1.adm.all = []) := by
  have hok := serveR_ok h.fit.ok hr now
  have hst := serve_stays R now
  have hfit := h.fit.stays hst hok
  have htot := serve_tot h.fit.ok now
  have hg := gone_ok h.fit.ok.calls now
  have hone := h.one
  have hna := next_all h.fit.ok.wf now
  have hnn := next_none h.fit.ok now
  have hroom : R.win.last < R.win.done + R.win.cap := by
    simp only [WinM.room, Bool.and_eq_true, decide_eq_true_eq] at hr; exact hr.1
  have hcnt := h.cnt
  have hsi := h.si.next now
  have hcl : ∀ f ∈ (R.adm.nextM now).all, f.client = 0 := fun f hf => h.cl f (hna.1 f hf)
  unfold serveR at hfit htot ⊢
  split
  · rename_i h1
    rw [if_pos h1] at hfit
    have e := hnn h1
    exact ⟨⟨hfit, h.ch, h.id, h.since, h.whole, h.rl, h.rlast, h.lok, h.ahead, h.cap, hsi, hcl, by show R.log.length + (R.adm.nextM now).all.length ≤ n; omega⟩, ⟨List.prefix_refl _, rfl, rfl, rfl, rfl, hna.2⟩, rfl, refs_one hg, e⟩
  rename_i h1
  rw [if_neg h1] at hfit htot
  have hcln := next_client h.fit.ok now (by simpa using h1)
  split
  · rename_i h2
    rw [if_pos h2] at hfit htot
    have ht := htot rfl
    rw [tot_all, tot_all] at ht
    have e0 : ((R.adm.nextM now).barM (nextF R now).client (nextF R now).seq (nextF R now).try_).2.all = (R.adm.nextM now).all := barM_all _ _ _ _
    dsimp only at ht
    rw [e0] at ht
    refine ⟨⟨hfit, h.ch, h.id, h.since, h.whole, h.rl, h.rlast, h.lok, h.ahead, h.cap, hsi.bar _ _ _, fun f hf => hcl f (by rw [← e0]; exact hf), ?_⟩, ⟨List.prefix_refl _, rfl, rfl, rfl, rfl, ?_⟩, rfl, ?_, ?_⟩
    · dsimp only; rw [e0]; omega
    · dsimp only; rw [e0]; omega
    · intro m hm
      rcases List.mem_append.1 hm with hm | hm
      · exact refs_one hg m hm
      · rw [List.mem_singleton.1 hm]; show 32 + (nextF R now).client ≠ 1; omega
    · dsimp only; rw [e0]; exact List.eq_nil_of_length_eq_zero (by omega)
  · rename_i h2
    rw [if_neg h2] at hfit htot
    have ht := htot rfl
    have htl : (pushE (nextA R now) (nextE R now)).tailB = false := h.tail
    have e1 : (pushE (nextA R now) (nextE R now)).finishR = pushE (nextA R now) (nextE R now) := by rw [RepM.finishR, htl]; rfl
    have e2 : (pushE (nextA R now) (nextE R now)).finishM = [] := by rw [RepM.finishM, htl]; rfl
    dsimp only at ht hfit ⊢
    rw [e1] at ht hfit
    rw [e1, e2, List.append_nil]
    rw [tot_all, tot_all] at ht
    have ht : (R.adm.nextM now).all.length < R.adm.all.length := ht
    have he : logErr R.log (nextE R now) = 0 := by simpa using h2
    refine ⟨⟨hfit, h.ch, h.id, h.since, h.whole, h.rl, h.rlast, h.lok.snoc he, ?_, h.cap, hsi, hcl, ?_⟩, ⟨List.prefix_append _ _, rfl, rfl, rfl, rfl, ?_⟩, rfl, refs_one hg, ?_⟩
    · show R.win.last + 1 ≤ R.win.done + R.win.cap; omega
    · show (R.log ++ [_]).length + (R.adm.nextM now).all.length ≤ n; rw [List.length_append]; simp; omega
    · show (R.adm.nextM now).all.length ≤ _; omega
    · show (R.adm.nextM now).all = []; exact List.eq_nil_of_length_eq_zero (by omega)
theorem hd_loop {W : Int} {n : Nat} (now : Int) : ∀ (k : Nat) {R : RepM}, HdI W n R → HdI W n (serveLoop now k R).1 ∧ Gr R (serveLoop now k R).1 ∧ (serveLoop now k R).1.win.sent = R.win.sent ∧ (∀ m ∈ (serveLoop now k R).2, m.1 ≠ 1) ∧ (1 ≤ k → R.win.room = true → (serveLoop now k R).1.adm.all = [])
  | 0, R, h => ⟨h, Gr.refl R, rfl, fun m hm => absurd hm List.not_mem_nil, fun h => absurd h (by decide)⟩
  | k + 1, R, h => by
    rw [serveLoop]
    split
    · rename_i hr
      obtain ⟨s1, s2, s3, s4, s5⟩ := hd_serve h hr now
      split
      · obtain ⟨l1, l2, l3, l4, l5⟩ := hd_loop now k s1
        refine ⟨l1, s2.trans l2, l3.trans s3, fun m hm => ?_, fun _ _ => ?_⟩
        · rcases List.mem_append.1 hm with hm | hm
          · exact s4 m hm
          · exact l4 m hm
        · have := l2.all
          rw [s5] at this
          exact List.eq_nil_of_length_eq_zero (Nat.le_zero.1 this)
      · exact ⟨s1, s2, s3, s4, fun _ _ => s5⟩
    · rename_i hr
      exact ⟨h, Gr.refl R, rfl, fun m hm => absurd hm List.not_mem_nil, fun _ h2 => absurd h2 hr⟩
theorem pass_out {W : Int} {n : Nat} {R : RepM} (h : HdI W n R) : ∀ k, k ≤ passK R → (passN R k).2 = ((R.log.drop R.win.sent.toNat).take k).map fun e => ((1 : Int), fwdE e)
  | 0, _ => by simp [passN]
  | k + 1, hk => by
    have ih := pass_out h k (by omega)
    have hw := passN_win R k (by omega)
    have hs := h.fit.ok.win.sent0
    have hl := h.fit.ok.last
    have hlt : R.win.sent.toNat + k < R.log.length := by unfold passK at hk; omega
    obtain ⟨e, he⟩ : ∃ e, R.log[R.win.sent.toNat + k]? = some e := ⟨_, List.getElem?_eq_getElem hlt⟩
    have ea : (atI R.log (R.win.sent + k + 1)).getD entZ = e := by
      unfold atI
      rw [if_pos (by omega), show (R.win.sent + (k : Int) + 1 - 1).toNat = R.win.sent.toNat + k by omega, he]; rfl
    rw [passN, ih, hw, h.next, h.ch]
    show _ ++ [((1 : Int), forwardF 1 ((atI R.log (R.win.sent + k + 1)).getD entZ))] = _
    rw [ea, List.take_add_one, List.getElem?_drop, he, List.map_append]
    rfl
theorem expR_nil {R : RepM} (h : R.rds.l = []) (now : Int) : expR R now = R := by
  obtain ⟨id, cl, cap, most, ch, since, whole, log, win, adm, rds, start, base, linked, hv⟩ := R
  cases rds
  dsimp only at h
  subst h
  rfl
theorem expS_nil {R : RepM} (h : R.rds.l = []) (now : Int) : expS R now = [] := by unfold expS; rw [h]; rfl
theorem hd_step {W : Int} {n : Nat} {R : RepM} (h : HdI W n R) (now : Int) :
    HdI W n (stepR R now).1 ∧ Gr R (stepR R now).1 ∧ (∀ m ∈ (stepR R now).2, OkS (stepR R now).1.log m) ∧ (R.win.room = true → (stepR R now).1.adm.all = []) ∧
    (R.linked = true → (stepR R now).1.win.last ≤ R.win.limit → ∃ X, (stepR R now).2 = X ++ ((stepR R now).1.log.drop R.win.sent.toNat).map (fun e => ((1 : Int), fwdE e)) ∧ ∀ m ∈ X, m.1 ≠ 1) := by
  have hfit := stepR_fit h.fit now
  have e2 : step2 R now = serveLoop now 65 R := by
    unfold step2
    rw [expR_nil h.rl, servesB, h.head, h.whole, h.drains]; rfl
  obtain ⟨l1, l2, l3, l4, l5⟩ := hd_loop now 65 h
  have eS : stepR R now = ((if (serveLoop now 65 R).1.linked then passR (serveLoop now 65 R).1 else ((serveLoop now 65 R).1, [])).1, (serveLoop now 65 R).2 ++ (if (serveLoop now 65 R).1.linked then passR (serveLoop now 65 R).1 else ((serveLoop now 65 R).1, [])).2) := by
    show ((step3 R now).1, expS R now ++ (step2 R now).2 ++ (step3 R now).2) = _
    rw [expS_nil h.rl, List.nil_append, step3, e2]
  rw [eS] at hfit ⊢
  generalize hQ : (serveLoop now 65 R).1 = Q at *
  cases hl : Q.linked with
  | false =>
    rw [hl] at hfit
    rw [if_neg (by simp)] at hfit
    rw [if_neg (by simp)]
    dsimp only at hfit ⊢
    rw [List.append_nil]
    exact ⟨l1, l2, fun m hm => OkS.of (l4 m hm), l5 (by decide), fun h2 => by rw [← l2.linked, hl] at h2; cases h2⟩
  | true =>
    rw [hl] at hfit
    rw [if_pos rfl] at hfit
    rw [if_pos rfl]
    have hw := passN_win Q (passK Q) (Nat.le_refl _)
    have ho := pass_out l1 (passK Q) (Nat.le_refl _)
    have ew : (passR Q).1 = { Q with win := { Q.win with sent := Q.win.sent + passK Q } } := by rw [passR, hw]
    have eo : (passR Q).2 = ((Q.log.drop Q.win.sent.toNat).take (passK Q)).map fun e => ((1 : Int), fwdE e) := ho
    dsimp only at hfit ⊢
    rw [ew] at hfit ⊢
    rw [eo]
    refine ⟨⟨hfit, l1.ch, l1.id, l1.since, l1.whole, l1.rl, l1.rlast, l1.lok, l1.ahead, l1.cap, l1.si, l1.cl, l1.cnt⟩, ⟨l2.log, l2.done, l2.limit, l2.linked, l2.have_, l2.all⟩, fun m hm => ?_, l5 (by decide), fun h2 h3 => ?_⟩
    · rcases List.mem_append.1 hm with hm | hm
      · exact OkS.of (l4 m hm)
      · obtain ⟨e, he, rfl⟩ := List.mem_map.1 hm
        have he := List.mem_of_mem_take he
        obtain ⟨i, hi⟩ := List.mem_iff_getElem?.1 he
        rw [List.getElem?_drop] at hi
        exact fun _ => .inl ⟨_, e, hi, rfl⟩
    · refine ⟨(serveLoop now 65 R).2, ?_, l4⟩
      have h3 : Q.win.last ≤ R.win.limit := h3
      have hlast := l1.fit.ok.last
      have hs := l1.fit.ok.win.sent0
      have : passK Q = (Q.log.drop Q.win.sent.toNat).length := by
        rw [passK, l2.limit, List.length_drop]; omega
      rw [this, List.take_length, l3]
end Go.Proofs.YtbbnmgakmcppdaaGreat.Rep
namespace Go.Proofs.YtbbnmgakmcppdaaGreat.Rep
open Go Go.Proofs.YtbbnmgakmcppdaaGreat.Vg Go.Proofs.YtbbnmgakmcppdaaGreat.T Go.Proofs.YtbbnmgakmcppdaaGreat.Api Go.Proofs.YtbbnmgakmcppdaaGreat.Kv Go.Proofs.YtbbnmgakmcppdaaGreat.Ch Go.Proofs.YtbbnmgakmcppdaaGreat.Lg Go.Proofs.YtbbnmgakmcppdaaGreat.Rd Go.Proofs.YtbbnmgakmcppdaaGreat.Win Go.Proofs.YtbbnmgakmcppdaaGreat.Adm Go.Proofs.YtbbnmgakmcppdaaGreat.Sched Go.Proofs.YtbbnmgakmcppdaaGreat.Conf
set_option linter.unusedSimpArgs false
set_option linter.unusedVariables false

/-! ### The tail -/
structure TlJ (W : Int) (R : RepM) : Prop where
  t : TlI R
  rl : R.rds.l = []
  linked : R.linked = false
  cap : R.win.cap = W
def ackN (W : Int) (n : Nat) : SndM := (0, ackF 1 n (n + W) n)
def OkT (n : Nat) (m : SndM) : Prop := m.1 = 0 → ∃ i g h, m.2 = ackF 1 i g h ∧ i ≤ (n : Int) ∧ h ≤ (n : Int)
theorem OkT.of {n : Nat} {m : SndM} (h : m.1 ≠ 0) : OkT n m := fun e => absurd e h
theorem OkT.mono {n k : Nat} {m : SndM} (h : OkT n m) (hk : n ≤ k) : OkT k m := fun e => by
  obtain ⟨i, g, x, h1, h2, h3⟩ := h e
  exact ⟨i, g, x, h1, by omega, by omega⟩
theorem OkT.ack (W : Int) (n : Nat) : OkT n (ackN W n) := fun _ => ⟨_, _, _, rfl, Int.le_refl _, Int.le_refl _⟩
theorem TlJ.drains {W : Int} {R : RepM} (h : TlJ W R) : R.drainsB = false := by rw [RepM.drainsB, h.t.ch, h.t.id]; simp [chT2]
theorem TlJ.done {W : Int} {R : RepM} (h : TlJ W R) : R.win.done = R.log.length := by rw [h.t.done, h.t.fit.ok.last]
theorem TlJ.greet {W : Int} {R : RepM} (h : TlJ W R) : R.greetM = [ackN W R.log.length] := by
  rw [RepM.greetM, h.t.prev, if_neg (by decide), h.t.ch, h.drains, if_neg (by simp), h.done, h.t.fit.ok.last, h.cap]; rfl
theorem tl_tick {W : Int} {R : RepM} (h : TlJ W R) : (tickR R).1 = R ∧ (tickR R).2 = [(16, aliveF 1 1), ackN W R.log.length] := by
  have hn : R.nextM = -1 := by rw [RepM.nextM, h.t.ch, h.t.id, chT2_is.2.2.2.2.2.1]
  constructor
  · show tick1 R = R
    unfold tick1; rw [h.linked]; rfl
  · show R.masterM ++ R.greetM ++ R.baseM ++ (if (!R.rds.l.isEmpty) = true then [(16, confirmF R.ch.epoch R.rds.lastI)] else []) ++ (if R.drainsB = true ∧ R.win.done = R.win.last then [(16, drainedF R.ch.epoch)] else []) = _
    rw [h.greet, h.rl, if_neg (by simp), h.drains, if_neg (by simp), RepM.baseM, hn, if_neg (by intro ⟨_, h⟩; exact absurd h (by decide)), RepM.masterM, h.t.whole, h.t.ch]
    rfl
theorem tl_stay {W : Int} {R : RepM} (h : TlJ W R) (now : Int) : stepR R now = (R, []) := by
  have hh : R.headB = false := by rw [RepM.headB, RepM.inB, h.t.since, h.t.ch, chT2_is.1, h.t.id]; rfl
  have e2 : step2 R now = (R, []) := by
    unfold step2
    rw [expR_nil h.rl, servesB, hh]; rfl
  have e3 : step3 R now = (R, []) := by
    unfold step3; rw [e2]; dsimp only; rw [h.linked]; rfl
  show ((step3 R now).1, expS R now ++ (step2 R now).2 ++ (step3 R now).2) = _
  rw [expS_nil h.rl, e2, e3]; rfl
theorem fw_keeps (R : RepM) (e : EntryM) : (forwardR R e).1.rds = R.rds ∧ (forwardR R e).1.linked = R.linked ∧ (forwardR R e).1.win.cap = R.win.cap ∧ (forwardR R e).1.log = if fwdB R e = true ∧ logErr R.log e = 0 then R.log ++ [e] else R.log := by
  have hw : ∀ (w : WinM) i, (w.ack i).cap = w.cap := fun w i => by unfold WinM.ack; split <;> rfl
  unfold forwardR
  split
  · have hf : (pushE R e).finishR.rds = R.rds ∧ (pushE R e).finishR.linked = R.linked ∧ (pushE R e).finishR.win.cap = R.win.cap ∧ (pushE R e).finishR.log = R.log ++ [e] := by
      unfold RepM.finishR; split
      · exact ⟨rfl, rfl, hw _ _, rfl⟩
      · exact ⟨rfl, rfl, rfl, rfl⟩
    show (pushE R e).finishR.becomeR.rds = _ ∧ _
    unfold RepM.becomeR
    split <;> exact hf
  · exact ⟨rfl, rfl, rfl, rfl⟩
theorem tl_fwd {W : Int} {R : RepM} (h : TlJ W R) (e : EntryM) (now : Int) : TlJ W (takeR R 0 (fwdE e) [] now).1 ∧ (∃ S0, (takeR R 0 (fwdE e) [] now).2 = S0 ++ [ackN W (takeR R 0 (fwdE e) [] now).1.log.length] ∧ S0.length ≤ 1 ∧ ∀ m ∈ S0, m.1 ≠ 0) ∧
    ((takeR R 0 (fwdE e) [] now).1.log = R.log ∧ ¬ (logErr R.log e = 0) ∨ (takeR R 0 (fwdE e) [] now).1.log = R.log ++ [e] ∧ e.index = R.log.length + 1) := by
  have e0 : takeR R 0 (fwdE e) [] now = takeR R 0 (fwdE e) [] 0 := by rw [take_fwd rfl, take_fwd rfl]
  have e1 : takeR R 0 (fwdE e) [] 0 = forwardR R e := by
    rw [take_fwd rfl, if_pos ⟨by rw [RepM.knownB, h.t.ch]; rfl, by rw [h.t.prev]; rfl⟩]; rfl
  rw [e0]
  have hs := tl_step h.t e
  rw [e1] at hs ⊢
  obtain ⟨k1, k2, k3, k4⟩ := fw_keeps R e
  have hw := h.t.fit.ok.win
  rcases hs with ⟨hR, g, hS⟩ | ⟨T2, hlog, hidx, hc0, hc1, g, hS⟩
  · have hn : ¬ (logErr R.log e = 0) := fun he => by
      have ho := logErr_ok he
      have hb : fwdB R e = true := by
        have := h.done; have := h.t.fit.ok.last; have := hw.cap0
        simp only [fwdB, Bool.and_eq_true, decide_eq_true_eq, beq_iff_eq]
        omega
      rw [if_pos ⟨hb, he⟩, hR] at k4
      have := congrArg List.length k4
      rw [List.length_append] at this
      simp at this
    have hQ : TlJ W (forwardR R e).1 := by rw [hR]; exact h
    refine ⟨hQ, ⟨[], ?_, Nat.zero_le _, fun m hm => absurd hm List.not_mem_nil⟩, .inl ⟨by rw [hR], hn⟩⟩
    have : (forwardR R e).2 = R.greetM := by
      rw [forwardR, if_neg (fun hh => hn hh.2)]
    rw [this, hR, h.greet]; rfl
  · have hQ : TlJ W (forwardR R e).1 := ⟨T2, by rw [k1]; exact h.rl, by rw [k2]; exact h.linked, by rw [k3]; exact h.cap⟩
    refine ⟨hQ, ?_, .inr ⟨hlog, hidx⟩⟩
    have hg := hQ.greet
    have hc : fwdB R e = true ∧ logErr R.log e = 0 := by
      apply Decidable.byContradiction
      intro hn
      rw [if_neg hn] at k4
      rw [hlog] at k4
      have := congrArg List.length k4
      rw [List.length_append] at this
      simp at this
    have ho : (forwardR R e).2 = ((pushE R e).finishM ++ (pushE R e).finishR.becomeM) ++ (forwardR R e).1.greetM := by rw [forwardR, if_pos hc]
    rw [hg] at ho
    rw [ho] at hS
    have := List.append_inj_left' (t₁ := [ackN W (forwardR R e).1.log.length]) (s₂ := [(32 + e.client, replyF e.client e.seq 0 (tlRes R.log e))]) (t₂ := [(0, ackF 1 ((R.log.length : Int) + 1) g ((R.log.length : Int) + 1))]) hS rfl
    refine ⟨_, ho, by rw [this]; exact Nat.le_refl _, fun m hm => ?_⟩
    rw [this] at hm
    rw [List.mem_singleton.1 hm]
    show 32 + e.client ≠ 0; omega
theorem tl_base {W : Int} {R : RepM} (h : TlJ W R) (i now : Int) : takeR R 0 (baseF 1 i) [] now = (baseR R i, []) ∧ TlJ W (baseR R i) := by
  have hb : (baseR R i).becomeB = false := by rw [RepM.becomeB]; show (_ && (!R.whole && _)) = false; rw [h.t.whole]; simp
  have e1 : takeR R 0 (baseF 1 i) [] now = (baseR R i, []) := by
    rw [take_base rfl, if_pos ⟨by rw [RepM.knownB, h.t.ch]; rfl, by rw [h.t.prev]; rfl⟩, RepM.becomeR, RepM.becomeM]
    show (if (baseR R i).becomeB = true then _ else baseR R i, if (baseR R i).becomeB = true then _ else []) = _
    rw [hb]; rfl
  have hf := takeR_fit h.t.fit (by rw [h.t.rlast]; decide) 0 (baseF 1 i) [] now
  rw [e1] at hf
  exact ⟨e1, ⟨hf, h.t.ch, h.t.id, h.t.since, h.t.whole, h.t.done, h.t.rlast⟩, h.rl, h.linked, h.cap⟩

/-! ### The head hears of the tail -/
theorem hd_ack {W : Int} {n : Nat} {R : RepM} (h : HdI W n R) (i g x now : Int) : HdI W n (takeR R 1 (ackF 1 i g x) [] now).1 ∧ (takeR R 1 (ackF 1 i g x) [] now).1.log = R.log ∧ (takeR R 1 (ackF 1 i g x) [] now).1.adm = R.adm ∧ (takeR R 1 (ackF 1 i g x) [] now).1.linked = true ∧
    (takeR R 1 (ackF 1 i g x) [] now).1.have_ = (if R.linked then max R.have_ x else x) ∧ (takeR R 1 (ackF 1 i g x) [] now).1.win.done = (if R.win.done < i ∧ i ≤ R.win.last then i else R.win.done) ∧ (takeR R 1 (ackF 1 i g x) [] now).1.win.limit = max R.win.limit (min g 4112) := by
  have hf := takeR_fit h.fit (by rw [h.rlast]; decide) 1 (ackF 1 i g x) [] now
  have e1 : takeR R 1 (ackF 1 i g x) [] now = ackR R (ackF 1 i g x) := by
    rw [take_ack rfl, if_pos ⟨by rw [RepM.knownB, h.ch]; rfl, by rw [h.next]; rfl⟩]
  rw [e1] at hf ⊢
  have e2 : (ackR R (ackF 1 i g x)).1 = { ack2 R (ackF 1 i g x) with win := (ack2 R (ackF 1 i g x)).win.ack i } := rfl
  rw [e2] at hf ⊢
  have hw : ∀ w : WinM, (w.ack i).cap = w.cap ∧ (w.ack i).last = w.last ∧ (w.ack i).limit = w.limit ∧ (w.ack i).sent = w.sent ∧ (w.ack i).done = if w.done < i ∧ i ≤ w.last then i else w.done := fun w => by
    unfold WinM.ack WinM.ackB
    by_cases h1 : w.done < i ∧ i ≤ w.last
    · rw [if_pos h1, if_pos (by simp [h1.1, h1.2])]; exact ⟨rfl, rfl, rfl, rfl, rfl⟩
    · rw [if_neg h1, if_neg (by simpa using h1)]; exact ⟨rfl, rfl, rfl, rfl, rfl⟩
  obtain ⟨w1, w2, w3, w4, w5⟩ := hw (ack2 R (ackF 1 i g x)).win
  have q : (ack2 R (ackF 1 i g x)).ch = R.ch ∧ (ack2 R (ackF 1 i g x)).id = R.id ∧ (ack2 R (ackF 1 i g x)).since = R.since ∧ (ack2 R (ackF 1 i g x)).whole = R.whole ∧ (ack2 R (ackF 1 i g x)).rds = R.rds ∧ (ack2 R (ackF 1 i g x)).log = R.log ∧ (ack2 R (ackF 1 i g x)).adm = R.adm ∧
      (ack2 R (ackF 1 i g x)).win.cap = R.win.cap ∧ (ack2 R (ackF 1 i g x)).win.last = R.win.last ∧ (ack2 R (ackF 1 i g x)).win.done = R.win.done ∧ (ack2 R (ackF 1 i g x)).win.limit = max R.win.limit (min g 4112) ∧ (ack2 R (ackF 1 i g x)).linked = true ∧ (ack2 R (ackF 1 i g x)).have_ = if R.linked then max R.have_ x else x := by
    unfold ack2 ack1
    cases hl : R.linked with
    | false => rw [if_neg (by simp), if_neg (by simp)]; exact ⟨rfl, rfl, rfl, rfl, rfl, rfl, rfl, rfl, rfl, rfl, rfl, rfl, rfl⟩
    | true => rw [if_pos rfl, if_pos rfl]; exact ⟨rfl, rfl, rfl, rfl, rfl, rfl, rfl, rfl, rfl, rfl, rfl, rfl, rfl⟩
  generalize ack2 R (ackF 1 i g x) = P at hf w1 w2 w3 w4 w5 q ⊢
  obtain ⟨q1, q2, q3, q4, q5, q6, q7, q8, q9, q10, q11, q12, q13⟩ := q
  have hd : (P.win.ack i).done = if R.win.done < i ∧ i ≤ R.win.last then i else R.win.done := by rw [w5, q10, q9]
  refine ⟨⟨hf, q1.trans h.ch, q2.trans h.id, q3.trans h.since, q4.trans h.whole, ?_, ?_, ?_, ?_, ?_, ?_, ?_, ?_⟩, q6, q7, q12, q13, hd, ?_⟩
  · show P.rds.l = []; rw [q5]; exact h.rl
  · show P.rds.last = 0; rw [q5]; exact h.rlast
  · show LogOk P.log; rw [q6]; exact h.lok
  · show (P.win.ack i).last ≤ (P.win.ack i).done + (P.win.ack i).cap
    rw [w1, w2, hd, q8, q9]
    have := h.ahead
    split <;> omega
  · show (P.win.ack i).cap = W; rw [w1, q8]; exact h.cap
  · show SI P.adm; rw [q7]; exact h.si
  · show ∀ f ∈ P.adm.all, f.client = 0; rw [q7]; exact h.cl
  · show P.log.length + P.adm.all.length ≤ n; rw [q6, q7]; exact h.cnt
  · show (P.win.ack i).limit = _; rw [w3, q11]

/-! ### Both -/
structure PrI (W : Int) (n : Nat) (A B : RepM) : Prop where
  a : HdI W n A
  b : TlJ W B
  pre : B.log <+: A.log
  done : A.win.done ≤ B.log.length
  have_ : A.have_ ≤ B.log.length
structure Pg (W : Int) (A B : RepM) : Prop where
  linked : A.linked = true
  have_ : A.have_ = B.log.length
  done : A.win.done = B.log.length
  limit : B.log.length + W ≤ A.win.limit
theorem PrI.len {W : Int} {n : Nat} {A B : RepM} (h : PrI W n A B) : B.log.length ≤ A.log.length := h.pre.length_le
theorem PrI.gr {W : Int} {n m : Nat} {A B Q : RepM} (h : PrI W n A B) (hQ : HdI W m Q) (g : Gr A Q) : PrI W m Q B := ⟨hQ, h.b, h.pre.trans g.log, by rw [g.done]; exact h.done, by rw [g.have_]; exact h.have_⟩
theorem Pg.same {W : Int} {A B C : RepM} (h : Pg W A B) (e : C.log = B.log) : Pg W A C := ⟨h.linked, by rw [e]; exact h.have_, by rw [e]; exact h.done, by rw [e]; exact h.limit⟩
theorem pr_ack {W : Int} {n : Nat} {A B : RepM} (h : PrI W n A B) {m : SndM} (hm : OkT B.log.length m) (h0 : m.1 = 0) (now : Int) :
    PrI W n (takeR A 1 m.2 [] now).1 B ∧ (takeR A 1 m.2 [] now).1.log = A.log ∧ (takeR A 1 m.2 [] now).1.adm = A.adm ∧ (m = ackN W B.log.length → Pg W (takeR A 1 m.2 [] now).1 B) := by
  obtain ⟨i, g, x, e, hi, hx⟩ := hm h0
  rw [e]
  obtain ⟨a1, a2, a3, a4, a5, a6, a7⟩ := hd_ack h.a i g x now
  have hd := h.done; have hv := h.have_; have hlen := h.len
  have hl := h.a.fit.ok.last
  have hw := h.a.fit.ok.win
  have hcap := h.b.cap
  have hbw := h.b.t.fit.ok.win
  have hbl := h.b.t.fit.ok.last
  refine ⟨⟨a1, h.b, by rw [a2]; exact h.pre, ?_, ?_⟩, a2, a3, fun hm => ?_⟩
  · rw [a6]; split <;> omega
  · rw [a5]; split <;> omega
  · rw [hm] at e
    have e := (show ackF 1 (B.log.length : Int) ((B.log.length : Int) + W) (B.log.length : Int) = ackF 1 i g x from e)
    have e1 : (B.log.length : Int) = i := congrArg FrameM.index e
    have e2 : (B.log.length : Int) + W = g := congrArg FrameM.grant e
    have e3 : (B.log.length : Int) = x := congrArg FrameM.have_ e
    have c1 := hbw.cap1; have c2 := hbw.last1
    refine ⟨a4, ?_, ?_, ?_⟩
    · rw [a5]; split <;> omega
    · rw [a6]; split <;> omega
    · rw [a7]; omega
theorem fwdE_inj {e d : EntryM} (h : fwdE e = fwdE d) : e = d := congrArg FrameM.entry h
theorem pr_fwd {W : Int} {n : Nat} {A B : RepM} (h : PrI W n A B) {m : SndM} (hm : OkS A.log m) (h1 : m.1 = 1) (now : Int) :
    PrI W n A (takeR B 0 m.2 [] now).1 ∧ (takeR B 0 m.2 [] now).2.length ≤ 2 ∧ B.log <+: (takeR B 0 m.2 [] now).1.log ∧ (∀ x ∈ (takeR B 0 m.2 [] now).2, OkT (takeR B 0 m.2 [] now).1.log.length x) ∧
    ((takeR B 0 m.2 [] now).2 = [] ∧ (takeR B 0 m.2 [] now).1.log = B.log ∨ ∃ S0, (takeR B 0 m.2 [] now).2 = S0 ++ [ackN W (takeR B 0 m.2 [] now).1.log.length]) ∧
    (∀ k e, m = (1, fwdE e) → A.log[k]? = some e → k ≤ B.log.length → k + 1 ≤ (takeR B 0 m.2 [] now).1.log.length) := by
  have hd := h.done; have hv := h.have_; have hlen := h.len
  rcases hm h1 with ⟨k, e, hk, he⟩ | ⟨i, he⟩
  · rw [he]
    obtain ⟨t1, ⟨S0, t2, t2l, t3⟩, t4⟩ := tl_fwd h.b e now
    generalize takeR B 0 (fwdE e) [] now = P at t1 t2 t3 t4 ⊢
    have hidx := h.a.lok.idx hk
    have hS : ∀ x ∈ P.2, OkT P.1.log.length x := fun x hx => by
      rw [t2] at hx
      rcases List.mem_append.1 hx with hx | hx
      · exact OkT.of (t3 x hx)
      · rw [List.mem_singleton.1 hx]; exact OkT.ack _ _
    have hP2 : P.2.length ≤ 2 := by rw [t2, List.length_append]; show S0.length + 1 ≤ 2; omega
    have hacc : ∀ j d, m = (1, fwdE d) → A.log[j]? = some d → d = e ∧ j = k := fun j d hj hjd => by
      have e1 : fwdE e = fwdE d := he.symm.trans (congrArg Prod.snd hj)
      have := fwdE_inj e1; subst this
      exact ⟨rfl, by have := h.a.lok.idx hjd; omega⟩
    rcases t4 with ⟨hl, hn⟩ | ⟨hl, hx⟩
    · refine ⟨⟨h.a, t1, by rw [hl]; exact h.pre, by rw [hl]; exact hd, by rw [hl]; exact hv⟩, hP2, by rw [hl]; exact List.prefix_refl _, hS, .inr ⟨S0, t2⟩, fun j d hj hjd hjl => ?_⟩
      obtain ⟨rfl, rfl⟩ := hacc j d hj hjd
      rw [hl]
      by_cases hc : j = B.log.length
      · exfalso
        apply hn
        have := h.a.lok j d hk
        obtain ⟨c, hc2⟩ := h.pre
        rw [← hc2, hc, List.take_left] at this
        exact this
      · omega
    · have hkB : k = B.log.length := by omega
      have hpre : B.log ++ [e] <+: A.log := by
        obtain ⟨c, hc2⟩ := h.pre
        rw [← hc2, hkB, List.getElem?_append_right (Nat.le_refl _), Nat.sub_self] at hk
        obtain ⟨c', rfl⟩ : ∃ c', c = e :: c' := by
          cases c with
          | nil => simp at hk
          | cons y ys => exact ⟨ys, by simp at hk; rw [hk]⟩
        exact ⟨c', by rw [← hc2]; simp⟩
      have hll : P.1.log.length = B.log.length + 1 := by rw [hl, List.length_append]; rfl
      refine ⟨⟨h.a, t1, by rw [hl]; exact hpre, by omega, by omega⟩, hP2, by rw [hl]; exact List.prefix_append _ _, hS, .inr ⟨S0, t2⟩, fun j d hj hjd hjl => by omega⟩
  · rw [he]
    obtain ⟨t1, t2⟩ := tl_base h.b i now
    rw [t1]
    refine ⟨⟨h.a, t2, h.pre, hd, hv⟩, by show 0 ≤ 2; omega, List.prefix_refl _, fun x hx => absurd hx List.not_mem_nil, .inl ⟨rfl, rfl⟩, fun j d hj hjd hjl => ?_⟩
    have : (baseF 1 i).kind = (fwdE d).kind := by rw [← he, hj]
    exact absurd this (by show (6 : Int) ≠ 4; decide)
end Go.Proofs.YtbbnmgakmcppdaaGreat.Rep
namespace Go.Proofs.YtbbnmgakmcppdaaGreat.Rep
open Go Go.Proofs.YtbbnmgakmcppdaaGreat.Vg Go.Proofs.YtbbnmgakmcppdaaGreat.T Go.Proofs.YtbbnmgakmcppdaaGreat.Api Go.Proofs.YtbbnmgakmcppdaaGreat.Kv Go.Proofs.YtbbnmgakmcppdaaGreat.Ch Go.Proofs.YtbbnmgakmcppdaaGreat.Lg Go.Proofs.YtbbnmgakmcppdaaGreat.Rd Go.Proofs.YtbbnmgakmcppdaaGreat.Win Go.Proofs.YtbbnmgakmcppdaaGreat.Adm Go.Proofs.YtbbnmgakmcppdaaGreat.Sched Go.Proofs.YtbbnmgakmcppdaaGreat.Conf
set_option linter.unusedSimpArgs false
set_option linter.unusedVariables false

/-- Behind so many rounds in which nothing was lost. -/
structure RdI (W : Int) (q : Nat) (A B : RepM) : Prop where
  pg : 1 ≤ q → Pg W A B
  eq : 2 ≤ q → A.log.length ≤ B.log.length
  all : 3 ≤ q → A.adm.all = []
/-- Behind a first Step of such a round. -/
structure RdJ (W : Int) (q : Nat) (A B : RepM) : Prop where
  pg : 1 ≤ q → Pg W A B
  all : 2 ≤ q → A.adm.all = []
/-- What is sent in such a round. -/
structure SF (W : Int) (q m : Nat) (s t : List SndM) (A0 : RepM) : Prop where
  ts : t = [(16, aliveF 1 1), ackN W m]
  hd : ∃ i X, s = (16, aliveF 1 1) :: (1, baseF 1 i) :: X
  f : 1 ≤ q → ∃ r, 2 ≤ r ∧ s.length = r + (A0.log.length - m) ∧ ∀ j, j < A0.log.length - m → ∃ e, A0.log[m + j]? = some e ∧ s[r + j]? = some ((1 : Int), fwdE e)
  all : 2 ≤ q → A0.adm.all = []
/-- Ahead of what is there at k. -/
structure KI (W : Int) (q m r : Nat) (A0 : RepM) (k : Nat) (A B : RepM) : Prop where
  log : A.log = A0.log
  adm : A.adm = A0.adm
  low : k < 2 → B.log.length = m
  pg : 2 ≤ k → Pg W A B
  pr : 1 ≤ q → m + (k - r) ≤ B.log.length
  mge : m ≤ B.log.length
/-- Behind what came from the tail at k. -/
structure KT (W : Int) (q m r : Nat) (A0 : RepM) (k : Nat) (A B : RepM) : Prop where
  log : A.log = A0.log
  adm : A.adm = A0.adm
  low : k < 2 → B.log.length = m
  pg : 1 ≤ k → Pg W A B
  pr : 1 ≤ q → m + (k - r) ≤ B.log.length
  mge : m ≤ B.log.length
section
variable {W : Int} {q m r n : Nat} {A0 : RepM} {k : Nat} {A B : RepM} {s t : List SndM}
theorem kt_yes (sf : SF W q m s t A0) (p : PrI W n A B) (h : KI W q m r A0 k A B) {x : SndM} (hx : t[k]? = some x) (h0 : x.1 = 0) (now : Int) : KT W q m r A0 k (takeR A 1 x.2 [] now).1 B := by
  rw [sf.ts] at hx
  have hk : k = 1 := by
    match k, hx with
    | 0, hx =>
      simp at hx
      subst hx
      cases h0
    | 1, hx => rfl
    | k + 2, hx => simp at hx
  subst hk
  obtain rfl : ackN W m = x := by simpa using hx
  have hm := h.low (by decide)
  have hok : OkT B.log.length (ackN W m) := by rw [hm]; exact OkT.ack _ _
  obtain ⟨p1, p2, p3, p4⟩ := pr_ack p hok h0 now
  exact ⟨p2.trans h.log, p3.trans h.adm, h.low, fun _ => p4 (by rw [hm]), h.pr, h.mge⟩
theorem kt_no (sf : SF W q m s t A0) (h : KI W q m r A0 k A B) (hx : ∀ x, t[k]? = some x → x.1 ≠ 0) : KT W q m r A0 k A B := by
  have hk : k ≠ 1 := fun e => by
    subst e
    exact hx (ackN W m) (by rw [sf.ts]; rfl) rfl
  exact ⟨h.log, h.adm, h.low, fun _ => h.pg (by omega), h.pr, h.mge⟩
/-- What came is nothing to the tail. -/
theorem ki_no (hr : 1 ≤ q → ∃ x, 2 ≤ r ∧ s.length = r + x ∧ ∀ j, j < x → ∃ e, A0.log[m + j]? = some e ∧ s[r + j]? = some ((1 : Int), fwdE e)) (sf : SF W q m s t A0) (h : KT W q m r A0 k A B) (hk : k < s.length ∨ k < t.length) (hx : ∀ x, s[k]? = some x → x.1 ≠ 1) : KI W q m r A0 (k + 1) A B := by
  have h1 : k ≠ 1 := fun e => by
    subst e
    obtain ⟨i, X, hs⟩ := sf.hd
    exact hx (1, baseF 1 i) (by rw [hs]; rfl) rfl
  have hks : k < s.length := by
    rcases hk with hk | hk
    · exact hk
    · obtain ⟨i, X, hs⟩ := sf.hd
      rw [sf.ts] at hk
      rw [hs]; simp at hk ⊢; omega
  refine ⟨h.log, h.adm, fun h2 => h.low (by omega), fun h2 => h.pg (by omega), fun hq => ?_, h.mge⟩
  obtain ⟨x, hr2, hl, hf⟩ := hr hq
  have := h.pr hq
  by_cases hkr : k < r
  · have := h.mge; omega
  · exfalso
    obtain ⟨e, _, he⟩ := hf (k - r) (by omega)
    rw [show r + (k - r) = k by omega] at he
    exact hx _ he rfl
/-- Something came to the tail, and its answers to the head. -/
theorem ki_yes {Q C : RepM} (hr : 1 ≤ q → ∃ x, 2 ≤ r ∧ s.length = r + x ∧ ∀ j, j < x → ∃ e, A0.log[m + j]? = some e ∧ s[r + j]? = some ((1 : Int), fwdE e)) (sf : SF W q m s t A0) (p : PrI W n A B) (h : KT W q m r A0 k A B) {x : SndM} (hx : s[k]? = some x) (h1 : x.1 = 1) (hok : OkS A.log x) (now : Int)
    (hC : C = (takeR B 0 x.2 [] now).1) (hl : Q.log = A.log) (ha : Q.adm = A.adm) (hp : Pg W Q C) : KI W q m r A0 (k + 1) Q C := by
  obtain ⟨p1, _, p2, p3, p4, p5⟩ := pr_fwd p hok h1 now
  rw [← hC] at p1 p2 p3 p4 p5
  have hpl := p2.length_le
  have hk : k < s.length := (List.getElem?_eq_some_iff.1 hx).1
  have hk0 : k ≠ 0 := fun e => by
    subst e
    obtain ⟨i, X, hs⟩ := sf.hd
    rw [hs] at hx
    simp at hx
    subst hx
    cases h1
  refine ⟨hl.trans h.log, ha.trans h.adm, fun h2 => by omega, fun _ => hp, fun hq => ?_, Nat.le_trans h.mge hpl⟩
  obtain ⟨y, hr2, hll, hf⟩ := hr hq
  have h3 := h.pr hq
  have h4 := h.mge
  by_cases hkr : k < r
  · omega
  · obtain ⟨e, he1, he2⟩ := hf (k - r) (by omega)
    rw [show r + (k - r) = k by omega, hx] at he2
    obtain rfl : x = (1, fwdE e) := by simpa using he2
    have := p5 (m + (k - r)) e rfl (by rw [h.log]; exact he1) h3
    omega
/-- Behind such a round. -/
theorem rd_end (hr : 1 ≤ q → ∃ x, 2 ≤ r ∧ s.length = r + x ∧ x = A0.log.length - m) (sf : SF W q m s t A0) (h : KI W q m r A0 k A B) (hk : s.length ≤ k) : RdI W (q + 1) A B := by
  have h2 : 2 ≤ k := by
    obtain ⟨i, X, hs⟩ := sf.hd
    rw [hs] at hk; simp at hk; omega
  refine ⟨fun _ => h.pg h2, fun hq => ?_, fun hq => by rw [h.adm]; exact sf.all (by omega)⟩
  obtain ⟨x, hr2, hl, hx⟩ := hr (by omega)
  have := h.pr (by omega)
  rw [h.log]
  omega
end
/-- The answers of the tail are delivered, one after the other. -/
structure JI (W : Int) (n : Nat) (ll : Bool) (u : List SndM) (A : RepM) (j : Nat) (Q C : RepM) : Prop where
  p : PrI W n Q C
  log : Q.log = A.log
  adm : Q.adm = A.adm
  pg : ll = true → u.length ≤ j → Pg W Q C
theorem ji_start {W : Int} {n : Nat} {ll : Bool} {A B C : RepM} {u : List SndM} (p : PrI W n A C) (hu : u = [] ∧ C.log = B.log ∨ ∃ S0, u = S0 ++ [ackN W C.log.length]) (hp : ll = true → u = [] → Pg W A B) : JI W n ll u A 0 A C :=
  ⟨p, rfl, rfl, fun h1 h2 => by
    rcases hu with ⟨e, e2⟩ | ⟨S0, rfl⟩
    · exact (hp h1 e).same e2
    · rw [List.length_append] at h2; simp at h2⟩
theorem ji_no {W : Int} {n : Nat} {ll : Bool} {A B C Q : RepM} {u : List SndM} {j : Nat} (h : JI W n ll u A j Q C) (hu : u = [] ∧ C.log = B.log ∨ ∃ S0, u = S0 ++ [ackN W C.log.length]) {x : SndM} (hx : u[j]? = some x) (h0 : ll = true → x.1 ≠ 0) : JI W n ll u A (j + 1) Q C :=
  ⟨h.p, h.log, h.adm, fun h1 h2 => by
    exfalso
    rcases hu with ⟨rfl, e2⟩ | ⟨S0, rfl⟩
    · simp at hx
    · have hj := (List.getElem?_eq_some_iff.1 hx).1
      rw [List.length_append] at h2 hj
      simp at h2 hj
      have hjj : j = S0.length := by omega
      subst hjj
      rw [List.getElem?_append_right (Nat.le_refl _), Nat.sub_self] at hx
      obtain rfl : ackN W C.log.length = x := by simpa using hx
      exact h0 h1 rfl⟩
theorem ji_yes {W : Int} {n : Nat} {ll : Bool} {A B C Q : RepM} {u : List SndM} {j : Nat} (h : JI W n ll u A j Q C) (hu : u = [] ∧ C.log = B.log ∨ ∃ S0, u = S0 ++ [ackN W C.log.length]) (hok : ∀ x ∈ u, OkT C.log.length x) {x : SndM} (hx : u[j]? = some x) (h0 : x.1 = 0) (now : Int) : JI W n ll u A (j + 1) (takeR Q 1 x.2 [] now).1 C := by
  obtain ⟨p1, p2, p3, p4⟩ := pr_ack h.p (hok x (List.mem_of_getElem? hx)) h0 now
  refine ⟨p1, p2.trans h.log, p3.trans h.adm, fun h1 h2 => p4 ?_⟩
  rcases hu with ⟨rfl, e2⟩ | ⟨S0, rfl⟩
  · simp at hx
  · have hj := (List.getElem?_eq_some_iff.1 hx).1
    rw [List.length_append] at h2 hj
    simp at h2 hj
    have hjj : j = S0.length := by omega
    subst hjj
    rw [List.getElem?_append_right (Nat.le_refl _), Nat.sub_self] at hx
    simpa using hx.symm
theorem Pg.gr {W : Int} {A B Q : RepM} (h : Pg W A B) (g : Gr A Q) : Pg W Q B := ⟨g.linked.trans h.linked, by rw [g.have_]; exact h.have_, by rw [g.done]; exact h.done, by rw [g.limit]; exact h.limit⟩
/-- Such a round begins with a Step. -/
theorem rd_first {W : Int} {n q : Nat} {A B : RepM} (p : PrI W n A B) (h : RdI W q A B) (hn : n < 4096) (now : Int) : PrI W n (stepR A now).1 B ∧ RdJ W q (stepR A now).1 B := by
  obtain ⟨s1, s2, s3, s4, s5⟩ := hd_step p.a now
  refine ⟨p.gr s1 s2, fun hq => (h.pg hq).gr s2, fun hq => s4 ?_⟩
  have pg := h.pg (by omega)
  have he := h.eq hq
  have c0 := p.a.fit.ok.win.cap0
  have h1 := p.a.fit.ok.last
  have h2 := pg.done
  have h3 := p.a.cnt
  simp only [WinM.room, Bool.and_eq_true, decide_eq_true_eq]
  omega
/-- It goes on. -/
theorem rd_start {W : Int} {n q : Nat} {A B : RepM} (p : PrI W n A B) (h : RdJ W q A B) (now : Int) :
    ∃ r, PrI W n (stepR (tickR A).1 now).1 B ∧ SF W q B.log.length ((tickR A).2 ++ (stepR (tickR A).1 now).2) ((tickR B).2 ++ (stepR (tickR B).1 now).2) (stepR (tickR A).1 now).1 ∧
    (1 ≤ q → ∃ x, 2 ≤ r ∧ ((tickR A).2 ++ (stepR (tickR A).1 now).2).length = r + x ∧ x = (stepR (tickR A).1 now).1.log.length - B.log.length ∧ ∀ j, j < x → ∃ e, (stepR (tickR A).1 now).1.log[B.log.length + j]? = some e ∧ ((tickR A).2 ++ (stepR (tickR A).1 now).2)[r + j]? = some ((1 : Int), fwdE e)) ∧
    KI W q B.log.length r (stepR (tickR A).1 now).1 0 (stepR (tickR A).1 now).1 B ∧ (stepR (tickR B).1 now).1 = B ∧ (tickR B).1 = B := by
  obtain ⟨t1, t2, t3, t4, t5, t6⟩ := hd_tick p.a
  obtain ⟨s1, s2, s3, s4, s5⟩ := hd_step t1 now
  obtain ⟨b1, b2⟩ := tl_tick p.b
  have b3 := tl_stay p.b now
  have g := t2.trans s2
  have hP := p.gr s1 g
  have hcnt := p.a.cnt
  have hl := p.a.fit.ok.last
  have hw := p.a.fit.ok.win
  have hlen := p.len
  have hf : 1 ≤ q → ∃ r, 2 ≤ r ∧ ((tickR A).2 ++ (stepR (tickR A).1 now).2).length = r + ((stepR (tickR A).1 now).1.log.length - B.log.length) ∧ ∀ j, j < (stepR (tickR A).1 now).1.log.length - B.log.length → ∃ e, (stepR (tickR A).1 now).1.log[B.log.length + j]? = some e ∧ ((tickR A).2 ++ (stepR (tickR A).1 now).2)[r + j]? = some ((1 : Int), fwdE e) := by
    intro hq
    have pg := h.pg hq
    have hs := t5 pg.linked
    have hsm : (tickR A).1.win.sent = (B.log.length : Int) := by
      rw [hs, pg.have_]; omega
    obtain ⟨X, e1, _⟩ := s5 (t2.linked.trans pg.linked) (by
      have h1 := s1.ahead
      rw [s1.cap, s2.done, t2.done, pg.done] at h1
      rw [t2.limit]
      exact Int.le_trans h1 pg.limit)
    rw [hsm, Int.toNat_natCast] at e1
    refine ⟨2 + X.length, by omega, ?_, fun j hj => ?_⟩
    · rw [t6, e1, List.length_append, List.length_append, List.length_map, List.length_drop]
      show 2 + _ = _
      omega
    · obtain ⟨e, he⟩ : ∃ e, (stepR (tickR A).1 now).1.log[B.log.length + j]? = some e := ⟨_, List.getElem?_eq_getElem (by omega)⟩
      refine ⟨e, he, ?_⟩
      rw [t6, e1, List.getElem?_append_right (by show 2 ≤ _; omega), List.getElem?_append_right (by show _ ≤ 2 + X.length + j - 2; omega)]
      rw [show 2 + X.length + j - [((16 : Int), aliveF 1 1), (1, baseF 1 A.start)].length - X.length = j by show 2 + X.length + j - 2 - _ = _; omega, List.getElem?_map, List.getElem?_drop, he]; rfl
  have hsf : SF W q B.log.length ((tickR A).2 ++ (stepR (tickR A).1 now).2) ((tickR B).2 ++ (stepR (tickR B).1 now).2) (stepR (tickR A).1 now).1 := by
    refine ⟨by rw [b1, b3, b2]; rfl, ⟨A.start, (stepR (tickR A).1 now).2, by rw [t6]; rfl⟩, hf, fun hq => ?_⟩
    have := g.all
    rw [h.all hq] at this
    exact List.eq_nil_of_length_eq_zero (Nat.le_zero.1 this)
  have hr : ∃ r, 1 ≤ q → 2 ≤ r ∧ ((tickR A).2 ++ (stepR (tickR A).1 now).2).length = r + ((stepR (tickR A).1 now).1.log.length - B.log.length) ∧ ∀ j, j < (stepR (tickR A).1 now).1.log.length - B.log.length → ∃ e, (stepR (tickR A).1 now).1.log[B.log.length + j]? = some e ∧ ((tickR A).2 ++ (stepR (tickR A).1 now).2)[r + j]? = some ((1 : Int), fwdE e) := by
    by_cases hq : 1 ≤ q
    · obtain ⟨r, hr⟩ := hf hq
      exact ⟨r, fun _ => hr⟩
    · exact ⟨0, fun h => absurd h hq⟩
  obtain ⟨r, hr⟩ := hr
  exact ⟨r, hP, hsf, fun hq => ⟨_, (hr hq).1, (hr hq).2.1, rfl, (hr hq).2.2⟩, ⟨rfl, rfl, fun _ => rfl, fun h => absurd h (by decide), fun _ => by omega, Nat.le_refl _⟩, by rw [b1, b3], b1⟩
/-! ### How it begins, and what is told at the end -/
theorem pr_new (c : ConfM) : PrI (cT c).window 0 (newR (cT c) 0 false) (newR (cT c) 1 false) := by
  have hf := newR_fit (cT_fit c) 0 false
  have tb := tl_new c
  have e0 := newT c chT2_is.2.2.2.2.2.2.1
  have e1 := newT c chT2_is.2.2.2.2.2.2.2
  have hall : (newA (cT c)).all = [] := by
    have : ∀ l : List Int, (l.map fun _ => ([] : List FrameM)).flatten = [] := fun l => by induction l <;> simp_all
    show ((SchM.new (cT c).qs (cT c).queue).cls.map ClsM.q).flatten = []
    simp only [SchM.new, List.map_map]
    exact this _
  have hsi : SI (newA (cT c)) := by
    have := SInv.start (cT c)
    rw [← cT_fit c] at this
    exact ⟨_, _, _, this⟩
  have hw := hf.ok.win
  rw [e0] at hf hw ⊢
  rw [e1] at tb ⊢
  refine ⟨⟨hf, rfl, rfl, rfl, rfl, rfl, rfl, fun k e h => by simp [newR0] at h, ?_, rfl, hsi, ?_, ?_⟩, ⟨tb, rfl, rfl, rfl⟩, List.prefix_refl _, Int.le_refl _, Int.le_refl _⟩
  · show (0 : Int) ≤ 0 + (cT c).window
    have := hw.cap0
    have : 1 ≤ (cT c).window := this
    omega
  · show ∀ f ∈ (newA (cT c)).all, f.client = 0
    rw [hall]; exact fun f hf => absurd hf List.not_mem_nil
  · show 0 + (newA (cT c)).all.length ≤ 0
    rw [hall]; exact Nat.le_refl _
theorem hd_len {W : Int} {n : Nat} {R : RepM} (h : HdI W n R) (now : Int) : (stepR R now).2.length ≤ 300000 := by
  have hS : (expS R now).length = 0 := by rw [expS_nil h.rl]; rfl
  have h2 : (step2 R now).2.length ≤ 273000 := by
    have := serveLoop_len now 65 (expR_ok h.fit.ok now)
    unfold step2; split
    · exact this
    · exact Nat.zero_le _
  have h3 : (step3 R now).2.length ≤ 4096 := by
    unfold step3; split
    · show (passN _ _).2.length ≤ 4096
      rw [passN_len]
      have hl := (step2_ok h.fit.ok now).win.last1
      have hs := (step2_ok h.fit.ok now).win.sent0
      unfold passK; omega
    · exact Nat.zero_le _
  show (expS R now ++ (step2 R now).2 ++ (step3 R now).2).length ≤ 300000
  rw [List.length_append, List.length_append]; omega
theorem call_len (R : RepM) (from_ : Int) (f : FrameM) (ms : List MemM) (now : Int) (h : f.kind = 1) : (takeR R from_ f ms now).2.length ≤ 1 := by
  unfold takeR
  rw [if_pos h]
  split
  · exact Nat.zero_le _
  split
  · exact Nat.zero_le _
  split
  · unfold readR; split <;> exact Nat.le_refl _
  · unfold updateR; repeat' split
    all_goals first | exact Nat.le_refl _ | exact Nat.zero_le _
theorem len_none {A : AdmM} (h : A.all = []) (k : Nat) : A.sch.lenM k = 0 := by
  rw [len_qs]
  split
  · rename_i q hq
    have := List.flatten_eq_nil_iff.1 h q (List.mem_of_getElem? hq)
    rw [this]; rfl
  · rfl
end Go.Proofs.YtbbnmgakmcppdaaGreat.Rep
namespace Go.Proofs.YtbbnmgakmcppdaaGreat.Rep
open Go Go.Proofs.YtbbnmgakmcppdaaGreat.Vg Go.Proofs.YtbbnmgakmcppdaaGreat.T Go.Proofs.YtbbnmgakmcppdaaGreat.Api Go.Proofs.YtbbnmgakmcppdaaGreat.Kv Go.Proofs.YtbbnmgakmcppdaaGreat.Ch Go.Proofs.YtbbnmgakmcppdaaGreat.Lg Go.Proofs.YtbbnmgakmcppdaaGreat.Rd Go.Proofs.YtbbnmgakmcppdaaGreat.Win Go.Proofs.YtbbnmgakmcppdaaGreat.Adm Go.Proofs.YtbbnmgakmcppdaaGreat.Sched Go.Proofs.YtbbnmgakmcppdaaGreat.Conf
set_option linter.unusedSimpArgs false
set_option linter.unusedVariables false
attribute [local irreducible] VO VC VA

def resEq (o p : ResM) : Bool := decide (o.code = p.code) && (decide (o.value = p.value) && (decide (o.version = p.version) && (decide (o.at_ = p.at_) && true)))
theorem resEq_rfl (o : ResM) : resEq o o = true := by simp [resEq]
theorem stoodRes : Tryz.prog.stoodInHeld 42 = false := by kernel_rfl
theorem guardRes : Tryz.prog.eqGuardType Tryz.prog.depth 42 = false := by kernel_rfl
theorem res_eq (o p : ResM) (w : World) : (Op.equal 42 (.agg (resC o).toArray) (.agg (resC p).toArray)).run Tryz.prog w = .ok (resEq o p) w := by
  have hi : ∀ (cs : List Value) (j : Nat) (n : Int), cs[j]? = some (.int .i64 n) → ∀ w : World, (part 3 cs.toArray j).run Tryz.prog w = .ok (.int .i64 n) w := fun cs j n h w => part1 (TabOk.look tabOk (t := 3) (ti := T.t3) rfl) rfl h w
  have hs : ∀ (cs : List Value) (j : Nat) (s : ByteArray), cs[j]? = some (.string s) → ∀ w : World, (part 9 cs.toArray j).run Tryz.prog w = .ok (.string s) w := fun cs j n h w => part1 (TabOk.look tabOk (t := 9) (ti := T.t9) rfl) rfl h w
  refine EqT.run (EqT.st Tryz.underlying42 stoodRes (EqFs.cons (by decide) (hi _ _ _ rfl) (hi _ _ _ rfl) (EqT.int Tryz.underlying3 o.code p.code) (EqFs.cons (by decide) (hs _ _ _ rfl) (hs _ _ _ rfl) (EqT.str Tryz.underlying9 o.value p.value) (EqFs.cons (by decide) (hi _ _ _ rfl) (hi _ _ _ rfl) (EqT.int Tryz.underlying3 o.version p.version) (EqFs.cons (by decide) (hi _ _ _ rfl) (hi _ _ _ rfl) (EqT.int Tryz.underlying3 o.at_ p.at_) EqFs.nil))))) (by decide) w
/-- A slice of some rows, opened. -/
theorem HOpn.row {α : Type} {c : α → List Value} {n : Nat} (el : Nat) (a : Option Addr) (cap : Nat) (xs : List α) (hne : xs ≠ []) : HOpn (ι := Nat × List Value) (slH el n a xs.length cap (flat c xs)) (fun y => a = some ⟨y.1, 0, none⟩) (fun y => [pt y.1 (flat c xs ++ y.2) el]) := by
  intro w ids h hn
  obtain ⟨y, hy, ids', h1, h2, h3⟩ := HOpn.sl el n a xs.length cap (flat c xs) w ids h hn
  cases y with
  | none => obtain ⟨_, _, _, h, _⟩ := hy; exact absurd (List.eq_nil_of_length_eq_zero h) hne
  | some y =>
    obtain ⟨b, rest⟩ := y
    obtain ⟨_, _, h7, _⟩ := hy
    exact ⟨(b, rest), h7, ids', h1, h2, h3⟩
set_option maxRecDepth 100000 in
theorem chief_spec (Fr : Nat → Prop) (w : World) (c : ConfM) (ca : Option Addr) (cc : Nat) (hq : IntsIn Fr w ca c.qs) (id : Int) (h0 : 0 ≤ id) (h1 : id < 2) : Tri Tryz.prog 20 [.agg (c.cells ca cc).toArray, .int .i64 id] Fr w []
    (fun v L => ∃ p, v = .tuple #[.pointer (some ⟨p, 0, none⟩), .bool true] ∧ L = [repH p (newR (cT c) id false)]) := by
  refine Tri.of 25 Tryz.func20 rfl (by kernel_rfl) tabOk rfl rfl ?_
  refine VC.seq (VC.region (VO.go (VO.boxA (vs := c.cells ca cc) rfl fun cb => ?_)))
  (repeat (first|refine zS ?_|refine zR ?_|refine zB ?_|refine zL ?_|refine zC ?_|refine zG (zN ?_)|refine zG (zD 0 rfl rfl rfl rfl ?_)))
  refine VO.go (VO.ldA 0 (c.cells ca cc) rfl rfl rfl rfl ?_)
  refine VO.go (VO.call (Lc := []) (fun Fr w hF hs _ => rfit_spec Fr w c ca cc (ints_of hq hF hs)) rfl rfl ?_)
  rintro _ _ ⟨a, cap, ha, hcap, rfl, rfl⟩
  refine VO.go (VO.stA (vs := (fitM c).cells a cap) (cs' := (fitM c).cells a cap) 1 rfl rfl rfl rfl (Nat.le_refl _) rfl rfl rfl (VO.go (VO.nil ?_)))
  (repeat (first|refine zS ?_|refine zR ?_|refine zB ?_|refine zL ?_|refine zC ?_|refine zG (zN ?_)|refine zG (zD 0 rfl rfl rfl rfl ?_)))
  refine VO.go (VO.st 1 (cs' := { fitM c with nodes := 2 }.cells a cap) rfl rfl rfl rfl (by show 0 < 12; omega) rfl rfl ?_)
  (repeat (first|refine zS ?_|refine zR ?_|refine zB ?_|refine zL ?_|refine zC ?_|refine zG (zN ?_)|refine zG (zD 0 rfl rfl rfl rfl ?_)))
  refine VO.go (VO.st 1 (cs' := (cT c).cells a cap) rfl rfl rfl rfl (by show 1 < 12; omega) rfl rfl ?_)
  (repeat (first|refine zS ?_|refine zR ?_|refine zB ?_|refine zL ?_|refine zC ?_|refine zG (zN ?_)|refine zG (zD 0 rfl rfl rfl rfl ?_)))
  refine VO.go (VO.ldA 1 ((cT c).cells a cap) rfl rfl rfl rfl ?_)
  (repeat (first|refine zS ?_|refine zR ?_|refine zB ?_|refine zL ?_|refine zC ?_|refine zG (zN ?_)|refine zG (zD 0 rfl rfl rfl rfl ?_)))
  refine VO.go (VO.call (Lc := []) (fun Fr w _ _ h2 => new_spec Fr w (cT c) a cap (ints_sl (h2.at_ 0 rfl)) ha hcap id false) rfl rfl ?_)
  intro v L hv
  rw [if_pos (show newOkB (cT c) id from ⟨cT_fit c, h0, h1⟩)] at hv
  obtain ⟨p, rfl, rfl⟩ := hv
  (repeat (first|refine zS ?_|refine zR ?_|refine zB ?_|refine zL ?_|refine zC ?_|refine zG (zN ?_)|refine zG (zD 0 rfl rfl rfl rfl ?_)))
  refine VO.go (VO.yes 21 true rfl rfl ?_)
  (repeat (first|refine zS ?_|refine zR ?_|refine zB ?_|refine zL ?_|refine zC ?_|refine zG (zN ?_)|refine zG (zD 0 rfl rfl rfl rfl ?_)|refine zG (zU rfl rfl rfl ?_)))
  exact VC.ret (Ret.tmp2 4 5 rfl rfl rfl (Imp.pick 0 rfl Imp.nil).ent ⟨p, rfl, rfl⟩)
end Go.Proofs.YtbbnmgakmcppdaaGreat.Rep
namespace Go.Proofs.YtbbnmgakmcppdaaGreat.Rep
open Go Go.Proofs.YtbbnmgakmcppdaaGreat.Vg Go.Proofs.YtbbnmgakmcppdaaGreat.T Go.Proofs.YtbbnmgakmcppdaaGreat.Api Go.Proofs.YtbbnmgakmcppdaaGreat.Kv Go.Proofs.YtbbnmgakmcppdaaGreat.Ch Go.Proofs.YtbbnmgakmcppdaaGreat.Lg Go.Proofs.YtbbnmgakmcppdaaGreat.Rd Go.Proofs.YtbbnmgakmcppdaaGreat.Win Go.Proofs.YtbbnmgakmcppdaaGreat.Adm Go.Proofs.YtbbnmgakmcppdaaGreat.Sched Go.Proofs.YtbbnmgakmcppdaaGreat.Conf
set_option linter.unusedSimpArgs false
set_option linter.unusedVariables false
attribute [local irreducible] VO VC VA

def opEqB (o p : OpM) : Bool := decide (o.kind = p.kind) && (decide (o.key = p.key) && (decide (o.value = p.value) && (decide (o.version = p.version) && true)))
def entEqB (e d : EntryM) : Bool := decide (e.index = d.index) && (decide (e.client = d.client) && (decide (e.seq = d.seq) && (opEqB e.op d.op && true)))
theorem entEqB_iff (e d : EntryM) : entEqB e d = true ↔ e = d := by
  obtain ⟨a1, a2, a3, ⟨o1, o2, o3, o4⟩⟩ := e
  obtain ⟨b1, b2, b3, ⟨p1, p2, p3, p4⟩⟩ := d
  simp [entEqB, opEqB]
theorem stoodEnt : Tryz.prog.stoodInHeld 44 = false := by kernel_rfl
theorem stoodOp : Tryz.prog.stoodInHeld 40 = false := by kernel_rfl
theorem guardEnt : Tryz.prog.eqGuardType Tryz.prog.depth 44 = false := by kernel_rfl
set_option maxRecDepth 100000 in
theorem ent_eq (e d : EntryM) (w : World) : (Op.equal 44 (.agg (entC e).toArray) (.agg (entC d).toArray)).run Tryz.prog w = .ok (entEqB e d) w := by
  have hi : ∀ (cs : List Value) (j : Nat) (n : Int), cs[j]? = some (.int .i64 n) → ∀ w : World, (part 3 cs.toArray j).run Tryz.prog w = .ok (.int .i64 n) w := fun cs j n h w => part1 (TabOk.look tabOk (t := 3) (ti := T.t3) rfl) rfl h w
  have hs : ∀ (cs : List Value) (j : Nat) (s : ByteArray), cs[j]? = some (.string s) → ∀ w : World, (part 9 cs.toArray j).run Tryz.prog w = .ok (.string s) w := fun cs j n h w => part1 (TabOk.look tabOk (t := 9) (ti := T.t9) rfl) rfl h w
  have ho : ∀ (e : EntryM) (w : World), (part 40 (entC e).toArray 3).run Tryz.prog w = .ok (.agg e.op.cells.toArray) w := fun e w => partA (cs := entC e) (ds := e.op.cells) (off := 3) (TabOk.look tabOk (t := 40) (ti := T.t40) rfl) (by kernel_rfl) (by show ((entC e).drop 3).take 4 = e.op.cells; rfl) w
  refine EqT.run (EqT.st Tryz.underlying44 stoodEnt (EqFs.cons (by decide) (hi _ _ _ rfl) (hi _ _ _ rfl) (EqT.int Tryz.underlying3 e.index d.index) (EqFs.cons (by decide) (hi _ _ _ rfl) (hi _ _ _ rfl) (EqT.int Tryz.underlying3 e.client d.client) (EqFs.cons (by decide) (hi _ _ _ rfl) (hi _ _ _ rfl) (EqT.int Tryz.underlying3 e.seq d.seq) (EqFs.cons (by decide) (ho e) (ho d) (EqT.st Tryz.underlying40 stoodOp (EqFs.cons (by decide) (hi _ _ _ rfl) (hi _ _ _ rfl) (EqT.int Tryz.underlying3 e.op.kind d.op.kind) (EqFs.cons (by decide) (hs _ _ _ rfl) (hs _ _ _ rfl) (EqT.str Tryz.underlying9 e.op.key d.op.key) (EqFs.cons (by decide) (hs _ _ _ rfl) (hs _ _ _ rfl) (EqT.str Tryz.underlying9 e.op.value d.op.value) (EqFs.cons (by decide) (hi _ _ _ rfl) (hi _ _ _ rfl) (EqT.int Tryz.underlying3 e.op.version d.op.version) EqFs.nil))))) EqFs.nil))))) (by decide) w
def entsB (xs ys : List EntryM) : Bool := (xs.length == ys.length) && (List.range xs.length).all fun k => match xs[k]?, ys[k]? with
  | some x, some y => entEqB x y
  | _, _ => true
theorem entsB_rfl (xs : List EntryM) : entsB xs xs = true := by
  simp only [entsB, beq_self_eq_true, Bool.true_and, List.all_eq_true]
  intro k _
  cases xs[k]? with
  | none => rfl
  | some x => exact (entEqB_iff x x).2 rfl
set_option maxRecDepth 100000 in
theorem equal_spec (Fr : Nat → Prop) (w : World) {a b : Option Addr} {ca cb : Nat} {xs ys : List EntryM} (hx : RwIn entC 7 Fr w a xs) (hy : RwIn entC 7 Fr w b ys) (hlx : xs.length ≤ 1000000) (hly : ys.length ≤ 1000000) :
    Tri Tryz.prog 124 [.slice a xs.length ca, .slice b ys.length cb] Fr w [] (fun v L => v = .bool (entsB xs ys) ∧ L = []) := by
  refine Tri.of 26 Tryz.func124 rfl (by kernel_rfl) tabOk rfl rfl ?_
  (repeat (first|refine zS ?_|refine zR ?_|refine zB ?_|refine zL ?_|refine zC ?_|refine zG (zN ?_)|refine zG (zD 0 rfl rfl rfl rfl ?_)))
  refine VC.condNE (i := (xs.length : Int)) (j := (ys.length : Int)) rfl (fun h => ?_) (fun h => VC.skip ?_)
  · (repeat (first|refine zS ?_|refine zR ?_|refine zB ?_|refine zL ?_|refine zC ?_|refine zG (zN ?_)|refine zG (zD 0 rfl rfl rfl rfl ?_)))
    exact VC.ret (Ret.bool 4 rfl rfl (by rw [entsB, show (xs.length == ys.length) = false by rw [beq_eq_false_iff_ne]; omega]; rfl) Ent.refl ⟨rfl, rfl⟩)
  have hll : xs.length = ys.length := by omega
  (repeat (first|refine zS ?_|refine zR ?_|refine zB ?_|refine zL ?_|refine zC ?_|refine zG (zN ?_)|refine zG (zD 0 rfl rfl rfl rfl ?_)))
  refine VC.loop (σ := Nat) (fun n => [(0, .slice a xs.length ca), (1, .slice b ys.length cb), (12, .int .i64 xs.length), (13, .int .i64 n)]) (fun _ => []) (fun n => n ≤ xs.length ∧ ∀ k, k < n → (match xs[k]?, ys[k]? with | some x, some y => entEqB x y | _, _ => true) = true) (fun n => xs.length - n) 0
    ⟨Nat.zero_le _, fun k hk => absurd hk (Nat.not_lt_zero k)⟩ (Sub.cons rfl (Sub.cons rfl (Sub.cons rfl (Sub.cons rfl (Sub.nil _))))) Ent.refl ?_
  rintro n ⟨hn, hall⟩
  (repeat (first|refine zS ?_|refine zR ?_|refine zB ?_|refine zL ?_|refine zC ?_|refine zG (zN ?_)|refine zG (zD 0 rfl rfl rfl rfl ?_)))
  refine VC.condP (p := (n : Int) < (xs.length : Int)) rfl (fun h2 => VC.skip ?_) (fun h2 => VC.exit ?_)
  rotate_left
  · (repeat (first|refine zS ?_|refine zR ?_|refine zB ?_|refine zL ?_|refine zC ?_|refine zG (zN ?_)|refine zG (zD 0 rfl rfl rfl rfl ?_)))
    refine VC.ret (Ret.bool 4 rfl rfl ?_ Ent.refl ⟨rfl, rfl⟩)
    obtain rfl : n = xs.length := by omega
    simp only [entsB, hll, beq_self_eq_true, Bool.true_and]
    rw [List.all_eq_true.2]
    intro k hk
    exact hall k (by have := List.mem_range.1 hk; omega)
  obtain ⟨x, hxk⟩ : ∃ x, xs[n]? = some x := ⟨_, List.getElem?_eq_getElem (by omega)⟩
  obtain ⟨y, hyk⟩ : ∃ y, ys[n]? = some y := ⟨_, List.getElem?_eq_getElem (by omega)⟩
  obtain ⟨mb, mo, hma, ra, rc⟩ := RwIn.rd (X := ⟨Tryz.prog, tab, tabOk, 26, Fr, w⟩) hx hxk
  subst hma
  obtain ⟨nb, no, hna, sa, sc⟩ := RwIn.rd (X := ⟨Tryz.prog, tab, tabOk, 26, Fr, w⟩) hy hyk
  subst hna
  refine VC.seq (VC.block ?_)
  refine VC.seq (VC.region ?_)
  (repeat (first|refine zS ?_|refine zR ?_|refine zB ?_|refine zL ?_|refine zC ?_|refine zG (zN ?_)|refine zG (zD 0 rfl rfl rfl rfl ?_)))
  refine VC.draw (ts 0 9 .nil) (by kernel_rfl) (by decide +kernel) ?_
  (repeat (first|refine yG (yN ?_)|refine yG (yD 0 rfl rfl rfl rfl rfl ?_)))
  refine VA.go (VA.light rfl (light_idx n rfl rfl rfl rfl rfl (by omega) (by omega)) ?_)
  refine VA.go (VA.load rfl rfl rfl (ra _ _ rfl rfl) ?_)
  (repeat (first|refine yG (yN ?_)|refine yG (yD 0 rfl rfl rfl rfl rfl ?_)))
  refine VA.go (VA.light rfl (light_idx n rfl rfl rfl rfl rfl (by omega) (by omega)) ?_)
  refine VA.go (VA.load rfl rfl rfl (sa _ _ rfl rfl) ?_)
  refine VA.go (VA.light rfl (light_neS guardEnt rfl rfl (ent_eq x y)) ?_)
  (repeat (first|refine yG (yN ?_)|refine yG (yD 0 rfl rfl rfl rfl rfl ?_)))
  refine VC.cond (t := !entEqB x y) rfl (fun hd => ?_) (fun hd => VC.skip ?_)
  · (repeat (first|refine zS ?_|refine zR ?_|refine zB ?_|refine zL ?_|refine zC ?_|refine zG (zN ?_)|refine zG (zD 0 rfl rfl rfl rfl ?_)))
    refine VC.ret (Ret.bool 4 rfl rfl ?_ Ent.refl ⟨rfl, rfl⟩)
    have hd : entEqB x y = false := by simpa using hd
    have : (List.range xs.length).all (fun k => match xs[k]?, ys[k]? with | some x, some y => entEqB x y | _, _ => true) = false := by
      rw [List.all_eq_false]
      refine ⟨n, List.mem_range.2 (by omega), ?_⟩
      rw [hxk, hyk]; simp [hd]
    simp only [entsB, this, Bool.and_false]
  · have hd : entEqB x y = true := by simpa using hd
    (repeat (first|refine zS ?_|refine zR ?_|refine zB ?_|refine zL ?_|refine zC ?_|refine zG (zN ?_)|refine zG (zD 0 rfl rfl rfl rfl ?_)))
    refine VO.go (VO.add rfl rfl (by omega) (by omega) ?_)
    (repeat (first|refine zS ?_|refine zR ?_|refine zB ?_|refine zL ?_|refine zC ?_|refine zG (zN ?_)|refine zG (zD 0 rfl rfl rfl rfl ?_)))
    exact ⟨n + 1, ⟨by omega, fun k hk => by
      by_cases hkn : k = n
      · subst hkn; rw [hxk, hyk]; exact hd
      · exact hall k (by omega)⟩, by dsimp only; omega, Sub.cons rfl (Sub.cons rfl (Sub.cons rfl (Sub.cons rfl (Sub.nil _)))), Ent.refl⟩
theorem slH_cap {el n cap esz : Nat} {a : Option Addr} {cs : List Value} {Fr : Nat → Prop} {w : World} (h : SatIn Fr [slH el esz a n cap cs] w) : n ≤ cap := by
  obtain ⟨F, ⟨ids, G, hF, ⟨h1, h2⟩, hG⟩, hf⟩ := h
  rcases h2 with ⟨rfl, h3, h4, _⟩ | ⟨b, rest, rfl, rfl, h4, h5, h6⟩
  · omega
  · exact h4
set_option maxRecDepth 100000 in
theorem begins_spec (Fr : Nat → Prop) (w : World) {p q : Nat} {xs ys : List EntryM} (hp : SatIn Fr [logH p xs] w) (hq : SatIn Fr [logH q ys] w) (hlx : xs.length ≤ 1000000) (hly : ys.length ≤ 1000000) (hpre : xs <+: ys) :
    Tri Tryz.prog 44 [.pointer (some ⟨p, 0, none⟩), .pointer (some ⟨q, 0, none⟩)] Fr w [] (fun v L => v = .bool true ∧ L = []) := by
  obtain ⟨x, hx⟩ := LogIn.of hp
  obtain ⟨y, hy⟩ := hq.ex
  have hy := hy.sep
  have hcap := slH_cap (hy.at_ 2 rfl)
  have hy : LogIn Fr w q ys y := ⟨hy.blk 0 rfl, hy.at_ 1 rfl, RwIn.slH entC_len (hy.at_ 2 rfl), RwIn.slH resC_len (hy.at_ 3 rfl)⟩
  have hb := hx.blk
  have hc := hy.blk
  unfold logCs at hb hc
  have hle := hpre.length_le
  have htk : ys.take xs.length = xs := by
    obtain ⟨c, rfl⟩ := hpre
    exact List.take_left
  have hy2 : RwIn entC 7 Fr w y.a1 (ys.take xs.length) := ⟨fun hne => by
    obtain ⟨b, off, h1, h2, h3⟩ := hy.ents.at_ (fun e => hne (by rw [e, List.take_nil]))
    refine ⟨b, off, h1, h2, fun i x hi => h3 i x ?_⟩
    rw [List.getElem?_take] at hi
    split at hi
    · exact hi
    · cases hi⟩
  rw [htk] at hy2
  refine Tri.of 45 Tryz.func44 rfl (by kernel_rfl) tabOk rfl rfl ?_
  (repeat (first|refine zS ?_|refine zR ?_|refine zB ?_|refine zL ?_|refine zC ?_|refine zG (zN ?_)|refine zG (zD 0 rfl rfl rfl rfl ?_)))
  refine VO.go (VO.callV' (fun Fr w hF hs _ => Lg.none_spec Fr w (hb.of hF hs)) rfl ?_)
  (repeat (first|refine zS ?_|refine zR ?_|refine zB ?_|refine zL ?_|refine zC ?_|refine zG (zN ?_)|refine zG (zD 0 rfl rfl rfl rfl ?_)))
  refine VO.go (VO.yes 7 false rfl rfl ?_)
  (repeat (first|refine zS ?_|refine zR ?_|refine zB ?_|refine zL ?_|refine zC ?_|refine zG (zN ?_)|refine zG (zD 0 rfl rfl rfl rfl ?_)|refine zG (zU rfl rfl rfl ?_)))
  refine VO.go (VO.callV' (fun Fr w hF hs _ => Lg.none_spec Fr w (hc.of hF hs)) rfl ?_)
  (repeat (first|refine zS ?_|refine zR ?_|refine zB ?_|refine zL ?_|refine zC ?_|refine zG (zN ?_)|refine zG (zD 0 rfl rfl rfl rfl ?_)|refine zG (zU rfl rfl rfl ?_)))
  refine VC.condF rfl (VC.skip ?_)
  refine VC.seq (VC.draw (ts 0 26 (.only 26 (ts 27 2 .nil))) (by kernel_rfl) (by decide +kernel) ?_)
  (repeat (first|refine yG (yN ?_)|refine yG (yE rfl rfl rfl (RdL.blk hb rfl) ?_)|refine yG (yE rfl rfl rfl (RdL.blk hc rfl) ?_)))
  refine VA.go (VA.yes 28 true rfl (decide_eq_true (by omega)) ?_)
  (repeat (first|refine yG (yN ?_)|refine yG (yE rfl rfl rfl (RdL.blk hb rfl) ?_)|refine yG (yE rfl rfl rfl (RdL.blk hc rfl) ?_)))
  refine VA.go (VA.light rfl (light_head xs.length rfl rfl rfl rfl rfl rfl (by omega)) ?_)
  (repeat (first|refine yG (yN ?_)|refine yG (yE rfl rfl rfl (RdL.blk hb rfl) ?_)|refine yG (yE rfl rfl rfl (RdL.blk hc rfl) ?_)))
  refine VA.go (VA.callR (fun Fr w hF hs hS => equal_spec Fr w (RwIn.of hx.ents hF hs) (RwIn.of hy2 hF hs) hlx hlx) rfl rfl (by (try refine Pd.st ?_);(repeat (first|exact Pd.nil|exact Pd.fnil|refine Pd.inner ?_|refine Pd.skip (by decide +kernel) ?_|refine zf (RdL.blk (RdL.blk hb rfl) rfl) ?_|refine zf (RdL.blk (RdL.blk hc rfl) rfl) ?_|refine zf ((RdL.blk hb rfl)) ?_|refine zf ((RdL.blk hc rfl)) ?_|refine zc (RdL.blk (RdL.blk hb rfl) rfl) ?_|refine zc (RdL.blk (RdL.blk hc rfl) rfl) ?_|refine zc ((RdL.blk hb rfl)) ?_|refine zc ((RdL.blk hc rfl)) ?_))) ?_)
  rw [entsB_rfl]
  (repeat (first|refine yG (yN ?_)|refine yG (yE rfl rfl rfl (RdL.blk hb rfl) ?_)|refine yG (yE rfl rfl rfl (RdL.blk hc rfl) ?_)))
  exact VC.ret (Ret.bool 4 rfl rfl rfl Ent.refl ⟨rfl, rfl⟩)
end Go.Proofs.YtbbnmgakmcppdaaGreat.Rep
namespace Go.Proofs.YtbbnmgakmcppdaaGreat.Rep
open Go Go.Proofs.YtbbnmgakmcppdaaGreat.Vg Go.Proofs.YtbbnmgakmcppdaaGreat.T Go.Proofs.YtbbnmgakmcppdaaGreat.Api Go.Proofs.YtbbnmgakmcppdaaGreat.Kv Go.Proofs.YtbbnmgakmcppdaaGreat.Ch Go.Proofs.YtbbnmgakmcppdaaGreat.Lg Go.Proofs.YtbbnmgakmcppdaaGreat.Rd Go.Proofs.YtbbnmgakmcppdaaGreat.Win Go.Proofs.YtbbnmgakmcppdaaGreat.Adm Go.Proofs.YtbbnmgakmcppdaaGreat.Sched Go.Proofs.YtbbnmgakmcppdaaGreat.Conf
set_option linter.unusedSimpArgs false
set_option linter.unusedVariables false
attribute [local irreducible] VO VC VA

theorem light_shr8 {X : Cx} {e : Env} {xt yt : TypeId} {x y : Operand} {a n : Nat} {k : IntKind} (hx : ev e x = some (.int .u8 (a : Int))) (hy : ev e y = some (.int k (n : Int))) (hn : n ≤ 8) : Light X (.binOp .shr xt x y yt) e (.int .u8 ((a / 2 ^ n : Nat) : Int)) := by
  intro a' ha dst ty pos after guard w
  have h8 : min ((n : Int).toNat) IntKind.u8.bits = n := Nat.min_eq_left hn
  have h2 : ((2 : Int) ^ n) = ((2 ^ n : Nat) : Int) := by simp
  have hd : (a : Int).fdiv (2 ^ n) = ((a / 2 ^ n : Nat) : Int) := by
    rw [h2, Int.fdiv_eq_ediv_of_nonneg _ (Int.natCast_nonneg _)]; rfl
  have h : Op.shift .shr .u8 (a : Int) k (n : Int) = pure (.int .u8 ((a / 2 ^ n : Nat) : Int)) := by
    unfold Op.shift
    rw [if_neg (by omega), h8]
    simp only [hd]
  simp only [execOp, ha.ev hx, ha.ev hy]
  show ((do eqGuard .shr xt x y (.int .u8 a) (.int k n); Op.shift .shr .u8 a k n : Sem Value) >>= fun v => pure (Next.value v)).run X.P w = _
  rw [h]; rfl
theorem light_and8 {X : Cx} {e : Env} {xt yt : TypeId} {x y : Operand} {a b : Nat} (hx : ev e x = some (.int .u8 (a : Int))) (hy : ev e y = some (.int .u8 (b : Int))) (ha : a < 256) (hb : b < 256) : Light X (.binOp .and xt x y yt) e (.int .u8 ((a &&& b : Nat) : Int)) := by
  intro a' hag dst ty pos after guard w
  have hlt : a &&& b < 256 := Nat.lt_of_le_of_lt Nat.and_le_left ha
  have h : Op.intBits .and .u8 (a : Int) (b : Int) = pure (.int .u8 ((a &&& b : Nat) : Int)) := by
    have f1 : (BitVec.ofInt 8 (a : Int)).toNat = a := by simp; omega
    have f2 : (BitVec.ofInt 8 (b : Int)).toNat = b := by simp; omega
    have e1 : (BitVec.ofInt 8 (a : Int) &&& BitVec.ofInt 8 (b : Int)).toNat = a &&& b := by rw [BitVec.toNat_and, f1, f2]
    show (pure (.int .u8 (IntKind.u8.wrap ((BitVec.ofInt 8 (a : Int) &&& BitVec.ofInt 8 (b : Int)).toNat : Int))) : Sem Value) = _
    rw [e1, IntKind.wrap_u8', Int.emod_eq_of_lt (by omega) (by omega)]
  simp only [execOp, hag.ev hx, hag.ev hy]
  show ((do eqGuard .and xt x y (.int .u8 a) (.int .u8 b); Op.intBits .and .u8 a b : Sem Value) >>= fun v => pure (Next.value v)).run X.P w = _
  rw [h]; rfl
abbrev T8 := Nat × Nat × Nat
def triC (x : T8) : List Value := [.int .u8 x.1, .int .u8 x.2.1, .int .u8 x.2.2]
theorem triC_len (x : T8) : (triC x).length = 3 := rfl
structure PrS where
  i : Nat
  A : RepM
  B : RepM
  n : Nat
  r : RL SndM
structure PrJ where
  A : RepM
  B : RepM
  n : Nat
  S : List SndM
  sa : Option Addr
  sc : Nat
  T : List SndM
  ta : Option Addr
  tc : Nat
structure PrL (W : Int) (m : Nat) (l : Nat) (y : PrS) : Prop where
  i : y.i ≤ l + 40
  p : PrI W y.n y.A y.B
  n : y.n ≤ y.i
  rd : RdI W (y.i - l) y.A y.B
  r : y.r.Ok sndC 30
  few : y.r.xs.length ≤ 20
  ok : ∀ x ∈ y.r.xs, OkS y.A.log x
structure PrM (W : Int) (i q : Nat) (ll : Bool) (A0 : RepM) (y : PrJ) : Prop where
  p : PrI W y.n y.A y.B
  n : y.n ≤ i + 1
  rd : ll = true → RdJ W q y.A y.B
  log : A0.log <+: y.A.log
  s : ∀ x ∈ y.S, OkS y.A.log x
  t : ∀ x ∈ y.T, OkT y.B.log.length x
  ls : y.S.length ≤ 310000
  lt : y.T.length ≤ 310000
def HR (q m r : Nat) (s : List SndM) (A0 : RepM) : Prop := 1 ≤ q → ∃ x, 2 ≤ r ∧ s.length = r + x ∧ x = A0.log.length - m ∧ ∀ j, j < x → ∃ e, A0.log[m + j]? = some e ∧ s[r + j]? = some ((1 : Int), fwdE e)
theorem HR.no {q m r : Nat} {s : List SndM} {A0 : RepM} (h : HR q m r s A0) : 1 ≤ q → ∃ x, 2 ≤ r ∧ s.length = r + x ∧ ∀ j, j < x → ∃ e, A0.log[m + j]? = some e ∧ s[r + j]? = some ((1 : Int), fwdE e) := fun hq => by
  obtain ⟨x, h1, h2, h3, h4⟩ := h hq; exact ⟨x, h1, h2, h4⟩
theorem HR.end_ {q m r : Nat} {s : List SndM} {A0 : RepM} (h : HR q m r s A0) : 1 ≤ q → ∃ x, 2 ≤ r ∧ s.length = r + x ∧ x = A0.log.length - m := fun hq => by
  obtain ⟨x, h1, h2, h3, h4⟩ := h hq; exact ⟨x, h1, h2, h3⟩
structure PrN (W : Int) (i q : Nat) (ll : Bool) (y : PrJ × RL SndM) : Prop where
  p : PrI W y.1.n y.1.A y.1.B
  n : y.1.n ≤ i + 1
  s : ∀ x ∈ y.1.S, OkS y.1.A.log x
  t : ∀ x ∈ y.1.T, OkT y.1.B.log.length x
  ls : y.1.S.length ≤ 310000
  lt : y.1.T.length ≤ 310000
  r : y.2.Ok sndC 30
  few : y.2.xs.length ≤ 20
  ok : ∀ x ∈ y.2.xs, OkS y.1.A.log x
  ll : ll = true → y.2.xs = [] ∧ ∃ rr, SF W q y.1.B.log.length y.1.S y.1.T y.1.A ∧ HR q y.1.B.log.length rr y.1.S y.1.A ∧ KI W q y.1.B.log.length rr y.1.A 0 y.1.A y.1.B
theorem snd_ld {r : RL SndM} (h : r.Ok sndC 30) {k : Nat} {x : SndM} (hx : r.xs[k]? = some x) : ∃ b off, r.blk = some b ∧ r.addr = some ⟨b, off, none⟩ ∧
    ∀ {X : Cx} {L : List HP} (i : Nat), L[i]? = some (r.h sndT) → (∀ ti : TI, ti.und.agg = false → RdL X L ti b (off + k * 30 + 0) (.int .i64 x.1)) ∧ (∀ ti : TI, 29 = ti.size → ti.und.agg = true → RdL X L ti b (off + k * 30 + 1) (.agg (fgC x.2 mem0).toArray)) := by
  obtain ⟨b, off, h1, h2, h3⟩ := h.nth hx
  refine ⟨b, off, h1, h2, fun {X L} i hL => ?_⟩
  rw [RL.h_pt h1] at hL
  refine ⟨fun ti ha => RdL.one i hL ?_ ha, fun ti hn ha => RdL.many i hL ?_ (by rw [← hn]; rfl) ha⟩
  · have : (sndC x)[0]? = some (.int .i64 x.1) := rfl
    rw [← h3, List.getElem?_take, if_pos (by omega), List.getElem?_drop] at this
    exact this
  · rw [← hn]
    have : ((sndC x).drop 1).take 29 = fgC x.2 mem0 := rfl
    rw [← h3, List.drop_take, List.take_take, List.drop_drop] at this
    exact this
theorem kt_pos {W : Int} {q m : Nat} {s t : List SndM} {A0 : RepM} (sf : SF W q m s t A0) {k : Nat} {x : SndM} (hx : s[k]? = some x) (h1 : x.1 = 1) : 1 ≤ k := by
  obtain ⟨i, X, hs⟩ := sf.hd
  cases k with
  | zero => rw [hs] at hx; simp at hx; subst hx; cases h1
  | succ k => omega
theorem new_W (c : ConfM) : 1 ≤ (cT c).window ∧ (cT c).window ≤ 16 := by
  have hw := (newR_fit (cT_fit c) 0 false).ok.win
  rw [newT c chT2_is.2.2.2.2.2.2.1] at hw
  exact ⟨hw.cap0, hw.cap1⟩
set_option maxRecDepth 100000 in
set_option maxHeartbeats 16000000 in
theorem pair_spec (Fr : Nat → Prop) (w : World) (c : ConfM) (ca : Option Addr) (cc : Nat) (hq : IntsIn Fr w ca c.qs) (la : Option Addr) (lc : Nat) (l : List T8) (hl : RwIn triC 3 Fr w la l) (hlb : ∀ x ∈ l, x.1 < 256 ∧ x.2.1 < 256 ∧ x.2.2 < 256) :
    Tri Tryz.prog 9 [.agg (c.cells ca cc).toArray, .slice la l.length lc] Fr w [] (fun v L => v = .bool true ∧ L = []) := by
  refine Tri.of 301 Tryz.func9 rfl (by kernel_rfl) tabOk rfl rfl ?_
  refine VC.seq (VC.region (VO.go (VO.boxA (vs := c.cells ca cc) rfl fun cb => ?_)))
  (repeat (first|refine zS ?_|refine zR ?_|refine zB ?_|refine zL ?_|refine zC ?_|refine zG (zN ?_)|refine zG (zD 0 rfl rfl rfl rfl ?_)))
  by_cases hbig : 20 < c.qs.length
  · refine VO.go (VO.yes 26 true rfl (decide_eq_true (by omega)) ?_)
    (repeat (first|refine zS ?_|refine zR ?_|refine zB ?_|refine zL ?_|refine zC ?_|refine zG (zN ?_)|refine zG (zD 0 rfl rfl rfl rfl ?_)|refine zG (zU rfl rfl rfl ?_)))
    refine VC.condT rfl ?_
    (repeat (first|refine zS ?_|refine zR ?_|refine zB ?_|refine zL ?_|refine zC ?_|refine zG (zN ?_)|refine zG (zD 0 rfl rfl rfl rfl ?_)))
    refine VO.go (VO.callV (fun Fr w => led_spec Fr w) rfl ?_)
    (repeat (first|refine zS ?_|refine zR ?_|refine zB ?_|refine zL ?_|refine zC ?_|refine zG (zN ?_)|refine zG (zD 0 rfl rfl rfl rfl ?_)))
    exact VC.ret (Ret.bool 4 rfl rfl rfl Imp.nil.ent ⟨rfl, rfl⟩)
  refine VO.go (VO.yes 26 false rfl (decide_eq_false (by omega)) ?_)
  (repeat (first|refine zS ?_|refine zR ?_|refine zB ?_|refine zL ?_|refine zC ?_|refine zG (zN ?_)|refine zG (zD 0 rfl rfl rfl rfl ?_)|refine zG (zU rfl rfl rfl ?_)))
  refine VC.condP rfl (fun h1 => ?_) (fun h1 => VC.skip ?_)
  · (repeat (first|refine zS ?_|refine zR ?_|refine zB ?_|refine zL ?_|refine zC ?_|refine zG (zN ?_)|refine zG (zD 0 rfl rfl rfl rfl ?_)))
    refine VO.go (VO.callV (fun Fr w => led_spec Fr w) rfl ?_)
    (repeat (first|refine zS ?_|refine zR ?_|refine zB ?_|refine zL ?_|refine zC ?_|refine zG (zN ?_)|refine zG (zD 0 rfl rfl rfl rfl ?_)))
    exact VC.ret (Ret.bool 4 rfl rfl rfl Imp.nil.ent ⟨rfl, rfl⟩)
  have hll : l.length ≤ 60 := by omega
  (repeat (first|refine zS ?_|refine zR ?_|refine zB ?_|refine zL ?_|refine zC ?_|refine zG (zN ?_)|refine zG (zD 0 rfl rfl rfl rfl ?_)))
  refine VO.go (VO.ldA 0 (c.cells ca cc) rfl rfl rfl rfl ?_)
  refine VO.go (VO.call (Lc := []) (fun Fr w hF hs _ => chief_spec Fr w c ca cc (ints_of hq hF hs) 0 (by decide) (by decide)) rfl rfl ?_)
  rintro _ _ ⟨pa, rfl, rfl⟩
  (repeat (first|refine zS ?_|refine zR ?_|refine zB ?_|refine zL ?_|refine zC ?_|refine zG (zN ?_)|refine zG (zD 0 rfl rfl rfl rfl ?_)))
  refine VO.go (VO.ldA 1 (c.cells ca cc) rfl rfl rfl rfl ?_)
  refine VO.go (VO.call (Lc := []) (fun Fr w hF hs _ => chief_spec Fr w c ca cc (ints_of hq hF hs) 1 (by decide) (by decide)) rfl rfl ?_)
  rintro _ _ ⟨pb, rfl, rfl⟩
  have P0 := pr_new c
  have hW := new_W c
  have g0 : (newR (cT c) 0 false).log = [] := by rw [newT c chT2_is.2.2.2.2.2.2.1]; rfl
  generalize newR (cT c) 0 false = A0 at P0 g0
  generalize newR (cT c) 1 false = B0 at P0
  generalize (cT c).window = W at P0 hW
  refine VO.ent (L' := [repH pa A0, repH pb B0]) (Imp.pick 1 rfl (Imp.pick 0 rfl Imp.nil)).ent ?_
  (repeat (first|refine zS ?_|refine zR ?_|refine zB ?_|refine zL ?_|refine zC ?_|refine zG (zN ?_)|refine zG (zD 0 rfl rfl rfl rfl ?_)))
  refine VO.go (VO.yes 44 false rfl rfl ?_)
  (repeat (first|refine zS ?_|refine zR ?_|refine zB ?_|refine zL ?_|refine zC ?_|refine zG (zN ?_)|refine zG (zD 0 rfl rfl rfl rfl ?_)|refine zG (zU rfl rfl rfl ?_)))
  refine VC.condF rfl (VC.skip ?_)
  (repeat (first|refine zS ?_|refine zR ?_|refine zB ?_|refine zL ?_|refine zC ?_|refine zG (zN ?_)|refine zG (zD 0 rfl rfl rfl rfl ?_)))
  refine VC.loop (σ := PrS) (fun y => [(1, .slice la l.length lc), (5, .pointer (some ⟨pa, 0, none⟩)), (7, .pointer (some ⟨pb, 0, none⟩)), (9, .int .i64 y.n), (10, .slice y.r.addr y.r.xs.length y.r.cap), (11, .int .i64 y.i)]) (fun y => [repH pa y.A, repH pb y.B, y.r.h sndT])
    (PrL W 0 l.length) (fun y => l.length + 40 - y.i) ⟨0, A0, B0, 0, RL.none⟩
    ⟨Nat.zero_le _, P0, Nat.zero_le _, ⟨fun h => by dsimp only at h; omega, fun h => by dsimp only at h; omega, fun h => by dsimp only at h; omega⟩, RL.none_ok, Nat.zero_le _, fun x hx => absurd hx List.not_mem_nil⟩
    (Sub.cons rfl (Sub.cons rfl (Sub.cons rfl (Sub.cons rfl (Sub.cons rfl (Sub.cons rfl (Sub.nil _))))))) (Imp.pick 0 rfl (Imp.pick 0 rfl (Imp.pure trivial Imp.nil))).ent ?_
  rintro ⟨i, A, B, n, r⟩ ⟨hi, hP, hn, hR, hrok, hrf, hro⟩
  dsimp only at hi hP hn hR hrok hrf hro ⊢
  (repeat (first|refine zS ?_|refine zR ?_|refine zB ?_|refine zL ?_|refine zC ?_|refine zG (zN ?_)|refine zG (zD 0 rfl rfl rfl rfl ?_)))
  refine VO.go (VO.add rfl rfl (by omega) (by omega) ?_)
  (repeat (first|refine zS ?_|refine zR ?_|refine zB ?_|refine zL ?_|refine zC ?_|refine zG (zN ?_)|refine zG (zD 0 rfl rfl rfl rfl ?_)))
  refine VC.condP (p := (i : Int) < (l.length : Int) + 40) rfl (fun h2 => VC.skip ?_) (fun h2 => VC.exit ?_)
  rotate_left
  · have hi40 : i = l.length + 40 := by omega
    rw [show i - l.length = 40 by omega] at hR
    have hall := hR.all (by decide)
    have heq := pre_eq hP.pre (hR.eq (by decide))
    have hdn := (hR.pg (by decide)).done
    have hda := hP.a.fit.ok.win.cap0
    have hcn := hP.a.cnt
    have hln := hP.len
    refine VC.seq (VC.region (VO.go (VO.nil ?_)))
    refine VC.seq ?_
    refine VC.meetS (σ := Unit) (fun _ => [(5, .pointer (some ⟨pa, 0, none⟩)), (7, .pointer (some ⟨pb, 0, none⟩)), (20, .int .i64 0)]) (fun _ => [repH pa A, repH pb B]) (fun _ => True) ?_ ?_
    · (repeat (first|refine zS ?_|refine zR ?_|refine zB ?_|refine zL ?_|refine zC ?_|refine zG (zN ?_)|refine zG (zU rfl rfl rfl ?_)))
      refine VC.loop (σ := Nat) (fun k => [(5, .pointer (some ⟨pa, 0, none⟩)), (7, .pointer (some ⟨pb, 0, none⟩)), (20, .int .i64 0), (21, .int .i64 k)]) (fun _ => [repH pa A, repH pb B]) (fun k => k ≤ 4) (fun k => 4 - k) 0 (Nat.zero_le _) (Sub.cons rfl (Sub.cons rfl (Sub.cons rfl (Sub.cons rfl (Sub.nil _))))) (Imp.pick 0 rfl (Imp.pick 0 rfl Imp.nil)).ent ?_
      intro k hk
      (repeat (first|refine zS ?_|refine zR ?_|refine zB ?_|refine zL ?_|refine zC ?_|refine zG (zN ?_)|refine zG (zU rfl rfl rfl ?_)))
      refine VC.condP (p := (k : Int) < 4) rfl (fun h5 => VC.skip ?_) (fun h5 => VC.exit ?_)
      · (repeat (first|refine zS ?_|refine zR ?_|refine zB ?_|refine zL ?_|refine zC ?_|refine zG (zN ?_)|refine zG (zU rfl rfl rfl ?_)))
        refine VO.go (VO.callV' (fun Fr w hF hs hS => waiting_spec Fr w (hS.at_ 0 rfl) k) rfl ?_)
        rw [len_none hall k]
        refine VO.go (VO.add rfl rfl (by omega) (by omega) ?_)
        (repeat (first|refine zS ?_|refine zR ?_|refine zB ?_|refine zL ?_|refine zC ?_|refine zG (zN ?_)|refine zG (zU rfl rfl rfl ?_)))
        refine VO.go (VO.add rfl rfl (by omega) (by omega) ?_)
        (repeat (first|refine zS ?_|refine zR ?_|refine zB ?_|refine zL ?_|refine zC ?_|refine zG (zN ?_)|refine zG (zU rfl rfl rfl ?_)))
        exact ⟨k + 1, by omega, by dsimp only; omega, (Sub.cons rfl (Sub.cons rfl (Sub.cons rfl (Sub.cons rfl (Sub.nil _))))), Ent.refl⟩
      · exact ⟨(), trivial, (Sub.cons rfl (Sub.cons rfl (Sub.cons rfl (Sub.nil _)))), Ent.refl⟩
    rintro _ -
    (repeat (first|refine zS ?_|refine zR ?_|refine zB ?_|refine zL ?_|refine zC ?_|refine zG (zN ?_)|refine zG (zU rfl rfl rfl ?_)))
    refine VO.go (VO.call (Lc := []) (fun Fr w hF hs hS => log_spec Fr w hP.a.fit.ok (hS.at_ 0 rfl)) rfl rfl ?_)
    rintro _ _ ⟨q1, rfl, rfl⟩
    refine VO.go (VO.call (Lc := []) (fun Fr w hF hs hS => log_spec Fr w hP.b.t.fit.ok (hS.at_ 2 rfl)) rfl rfl ?_)
    rintro _ _ ⟨q2, rfl, rfl⟩
    refine VO.go (VO.callV' (fun Fr w hF hs hS => begins_spec Fr w (hS.at_ 1 rfl) (hS.at_ 0 rfl) (by omega) (by omega) (by rw [heq]; exact List.prefix_refl _)) rfl ?_)
    refine VO.go (VO.yes 285 true rfl rfl ?_)
    refine VO.go (VO.call (Lc := []) (fun Fr w hF hs hS => window_spec Fr w hP.a.fit.ok (hS.at_ 2 rfl)) rfl rfl ?_)
    rintro _ _ ⟨w1, rfl, rfl⟩
    refine VO.go (VO.callV' (fun Fr w hF hs hS => Win.done_spec Fr w (hS.blk 0 rfl) hda) rfl ?_)
    refine VO.go (VO.call (Lc := []) (fun Fr w hF hs hS => log_spec Fr w hP.a.fit.ok (hS.at_ 3 rfl)) rfl rfl ?_)
    rintro _ _ ⟨q3, rfl, rfl⟩
    refine VO.go (VO.callV' (fun Fr w hF hs hS => Lg.len_spec Fr w (hS.at_ 0 rfl)) rfl ?_)
    refine VO.go (VO.yes 294 true rfl (by rw [beq_iff_eq, hdn, heq]) ?_)
    refine VO.go (VO.yes 298 true rfl rfl ?_)
    refine VO.go (VO.callV (fun Fr w => led_spec Fr w) rfl ?_)
    (repeat (first|refine zS ?_|refine zR ?_|refine zB ?_|refine zL ?_|refine zC ?_|refine zG (zN ?_)|refine zG (zU rfl rfl rfl ?_)))
    exact VC.ret (Ret.bool 4 rfl rfl rfl Imp.nil.ent ⟨rfl, rfl⟩)
  refine VC.seq (VC.block ?_)
  (repeat (first|refine zS ?_|refine zR ?_|refine zB ?_|refine zL ?_|refine zC ?_|refine zG (zN ?_)|refine zG (zD 0 rfl rfl rfl rfl ?_)))
  generalize hlq : decide ((l.length : Int) ≤ (i : Int)) = ll
  have hlt : ll = true ↔ l.length ≤ i := by rw [← hlq, decide_eq_true_iff]; omega
  refine VO.go (VO.alloc rfl fun xb => VO.go (VO.nil ?_))
  refine VC.seq ?_
  refine VC.meetS (σ := T8) (fun x => [(1, .slice la l.length lc), (5, .pointer (some ⟨pa, 0, none⟩)), (7, .pointer (some ⟨pb, 0, none⟩)), (9, .int .i64 n), (10, .slice r.addr r.xs.length r.cap), (11, .int .i64 i), (12, .bool ll), (13, .pointer (some ⟨xb, 0, none⟩))]) (fun x => [pt xb (triC x) 92, repH pa A, repH pb B, r.h sndT])
    (fun x => (x.1 < 256 ∧ x.2.1 < 256 ∧ x.2.2 < 256) ∧ (ll = true → x = (0, 0, 0))) ?_ ?_
  · (repeat (first|refine zS ?_|refine zR ?_|refine zB ?_|refine zL ?_|refine zC ?_|refine zG (zN ?_)|refine zG (zD 0 rfl rfl rfl rfl ?_)))
    refine VC.condN rfl (fun h3 => ?_) (fun h3 => VC.skip ?_)
    rotate_left
    · exact ⟨(0, 0, 0), ⟨by decide, fun _ => rfl⟩, Sub.cons rfl (Sub.cons rfl (Sub.cons rfl (Sub.cons rfl (Sub.cons rfl (Sub.cons rfl (Sub.cons rfl (Sub.cons rfl (Sub.nil _)))))))), Ent.refl⟩
    have hil : i < l.length := by
      have : ¬ l.length ≤ i := fun hh => by rw [hlt.2 hh] at h3; cases h3
      omega
    obtain ⟨x0, hx0⟩ : ∃ x, l[i]? = some x := ⟨_, List.getElem?_eq_getElem hil⟩
    obtain ⟨mb, mo, hma, ra, rc⟩ := RwIn.rd (X := ⟨Tryz.prog, tab, tabOk, 301, Fr, w⟩) hl hx0
    subst hma
    (repeat (first|refine zS ?_|refine zR ?_|refine zB ?_|refine zL ?_|refine zC ?_|refine zG (zN ?_)|refine zG (zD 0 rfl rfl rfl rfl ?_)))
    refine VO.go (VO.light (light_idx i rfl rfl rfl rfl rfl rfl hil) ?_)
    refine VO.go (VO.load rfl rfl (ra _ _ rfl rfl) ?_)
    refine VO.go (VO.stA (vs := triC x0) (cs' := triC x0) 0 rfl rfl rfl rfl (Nat.le_refl _) rfl rfl rfl ?_)
    (repeat (first|refine zS ?_|refine zR ?_|refine zB ?_|refine zL ?_|refine zC ?_|refine zG (zN ?_)|refine zG (zD 0 rfl rfl rfl rfl ?_)))
    exact ⟨x0, ⟨hlb x0 (List.mem_of_getElem? hx0), fun h => by rw [h3] at h; cases h⟩, Sub.cons rfl (Sub.cons rfl (Sub.cons rfl (Sub.cons rfl (Sub.cons rfl (Sub.cons rfl (Sub.cons rfl (Sub.cons rfl (Sub.nil _)))))))), Ent.refl⟩
  rintro ⟨x0, x1, x2⟩ ⟨hxb, hxl⟩
  dsimp only at hxb
  refine VC.seq (VC.region (VO.go (VO.nil ?_)))
  refine VC.seq ?_
  refine VC.meetS (σ := PrJ) (fun y => [(1, .slice la l.length lc), (5, .pointer (some ⟨pa, 0, none⟩)), (7, .pointer (some ⟨pb, 0, none⟩)), (9, .int .i64 y.n), (10, .slice r.addr r.xs.length r.cap), (11, .int .i64 i), (12, .bool ll), (13, .pointer (some ⟨xb, 0, none⟩)), (14, .slice y.sa y.S.length y.sc), (15, .slice y.ta y.T.length y.tc)])
    (fun y => [slH sndT 30 y.sa y.S.length y.sc (flat sndC y.S), slH sndT 30 y.ta y.T.length y.tc (flat sndC y.T), repH pa y.A, repH pb y.B, r.h sndT, pt xb (triC (x0, x1, x2)) 92]) (PrM W i (i - l.length) ll A) ?_ ?_
  · refine VC.seq ?_
    have hPn := hP.a.fit
    have hPb := hP.b.t.fit
    have hAl : A.rds.last < 100000000 := by rw [hP.a.rlast]; decide
    refine VC.meetS (σ := Bool) (fun d => [(1, .slice la l.length lc), (5, .pointer (some ⟨pa, 0, none⟩)), (7, .pointer (some ⟨pb, 0, none⟩)), (9, .int .i64 n), (10, .slice r.addr r.xs.length r.cap), (11, .int .i64 i), (12, .bool ll), (13, .pointer (some ⟨xb, 0, none⟩)), (14, .slice none 0 0), (15, .slice none 0 0), (72, .bool d)]) (fun _ => [pt xb (triC (x0, x1, x2)) 92, repH pa A, repH pb B, r.h sndT]) (fun d => d = true → ll = false) ?_ ?_
    · refine VC.region ?_
      refine VO.go (VO.light (light_idxA 0 rfl rfl rfl rfl rfl rfl (by decide)) ?_)
      refine VO.go (VO.ld 0 rfl rfl rfl rfl ?_)
      refine VO.go (VO.light (light_rem rfl rfl (by omega) (by omega)) ?_)
      by_cases h0 : (x0 : Int) % 6 < 3
      · refine VO.go (VO.yes 69 true rfl (decide_eq_true h0) ?_)
        (repeat (first|refine zS ?_|refine zR ?_|refine zB ?_|refine zL ?_|refine zC ?_|refine zG (zN ?_)|refine zG (zD 0 rfl rfl rfl rfl ?_)|refine zG (zU rfl rfl rfl ?_)))
        exact ⟨!ll, fun h => (by simpa using h), (Sub.cons rfl (Sub.cons rfl (Sub.cons rfl (Sub.cons rfl (Sub.cons rfl (Sub.cons rfl (Sub.cons rfl (Sub.cons rfl (Sub.cons rfl (Sub.cons rfl (Sub.cons rfl (Sub.nil _)))))))))))), Ent.refl⟩
      · refine VO.go (VO.yes 69 false rfl (decide_eq_false h0) ?_)
        (repeat (first|refine zS ?_|refine zR ?_|refine zB ?_|refine zL ?_|refine zC ?_|refine zG (zN ?_)|refine zG (zD 0 rfl rfl rfl rfl ?_)|refine zG (zU rfl rfl rfl ?_)))
        exact ⟨false, fun h => (by cases h), (Sub.cons rfl (Sub.cons rfl (Sub.cons rfl (Sub.cons rfl (Sub.cons rfl (Sub.cons rfl (Sub.cons rfl (Sub.cons rfl (Sub.cons rfl (Sub.cons rfl (Sub.cons rfl (Sub.nil _)))))))))))), Ent.refl⟩
    rintro d hd
    refine VC.cond rfl (fun h3 => ?_) (fun h3 => ?_)
    · -- a call
      have hlf := hd h3
      have hnq : n ≤ 100 := by omega
      (repeat (first|refine zS ?_|refine zR ?_|refine zB ?_|refine zL ?_|refine zC ?_|refine zG (zN ?_)|refine zG (zD 0 rfl rfl rfl rfl ?_)))
      refine VO.go (VO.add rfl rfl (by omega) (by omega) ?_)
      (repeat (first|refine zS ?_|refine zR ?_|refine zB ?_|refine zL ?_|refine zC ?_|refine zG (zN ?_)|refine zG (zD 0 rfl rfl rfl rfl ?_)))
      refine VO.go (VO.callV (fun Fr w => put_spec Fr w 0 ((n : Int) + 1) 1 1) rfl ?_)
      refine VO.go (VO.alloc rfl fun fb => ?_)
      refine VO.go (VO.stA (vs := fgC (putM 0 ((n : Int) + 1) 1 1) mem0) (cs' := fgC (putM 0 ((n : Int) + 1) 1 1) mem0) 0 rfl rfl rfl rfl (Nat.le_refl _) rfl rfl rfl ?_)
      (repeat (first|refine zS ?_|refine zR ?_|refine zB ?_|refine zL ?_|refine zC ?_|refine zG (zN ?_)|refine zG (zD 0 rfl rfl rfl rfl ?_)))
      refine VO.go (VO.st 0 (cs' := fgC (callF ((n : Int) + 1)) mem0) rfl rfl rfl rfl (by show 6 < 29; omega) rfl rfl ?_)
      (repeat (first|refine zS ?_|refine zR ?_|refine zB ?_|refine zL ?_|refine zC ?_|refine zG (zN ?_)|refine zG (zD 0 rfl rfl rfl rfl ?_)))
      refine VO.go (VO.ldA 0 (fgC (callF ((n : Int) + 1)) mem0) rfl rfl rfl rfl ?_)
      (repeat (first|refine zS ?_|refine zR ?_|refine zB ?_|refine zL ?_|refine zC ?_|refine zG (zN ?_)|refine zG (zD 0 rfl rfl rfl rfl ?_)))
      obtain ⟨Ad, e1, e2, e3⟩ := hd_call hP.a ((n : Int) + 1) i
      have e4 : (takeR A 32 (callF ((n : Int) + 1)) [] i).2.length ≤ 1 := call_len _ _ _ _ _ rfl
      refine VO.ent (L' := [repH pa A, repH pb B, r.h sndT, pt xb (triC (x0, x1, x2)) 92]) (Imp.pick 2 rfl (Imp.pick 2 rfl (Imp.pick 2 rfl (Imp.pick 1 rfl Imp.nil)))).ent ?_
      refine VO.go (VO.call (Lc := [repH pa A]) (fun Fr w _ _ _ => take0_spec Fr w hPn hAl 32 (callF ((n : Int) + 1)) i (by show (-9223372036854775808 : Int) ≤ 0; omega) (by show (0 : Int) ≤ 9223372036854775807; omega)) rfl rfl ?_)
      rintro _ _ ⟨sa, sc, rfl, rfl⟩
      (repeat (first|refine zS ?_|refine zR ?_|refine zB ?_|refine zL ?_|refine zC ?_|refine zG (zN ?_)|refine zG (zD 0 rfl rfl rfl rfl ?_)))
      rw [e1]
      exact ⟨⟨{ A with adm := Ad }, B, n + 1, _, sa, sc, [], none, 0⟩, ⟨⟨e2, hP.b, hP.pre, hP.done, hP.have_⟩, by dsimp only; omega, fun h => (by rw [hlf] at h; cases h), List.prefix_refl _, fun m hm => OkS.of (by rw [e3 m hm]; decide), fun m hm => absurd hm List.not_mem_nil, Nat.le_trans e4 (by decide), Nat.zero_le _⟩,
        (Sub.cons rfl (Sub.cons rfl (Sub.cons rfl (Sub.cons rfl (Sub.cons rfl (Sub.cons rfl (Sub.cons rfl (Sub.cons rfl (Sub.cons rfl (Sub.cons rfl (Sub.nil _))))))))))), (Imp.pick 1 rfl (Imp.slNil (Imp.pick 0 rfl (Imp.pick 0 rfl (Imp.pick 0 rfl (Imp.pick 0 rfl Imp.nil)))))).ent⟩
    refine VC.seq (VC.region ?_)
    refine VO.go (VO.light (light_idxA 0 rfl rfl rfl rfl rfl rfl (by decide)) ?_)
    refine VO.go (VO.ld 0 rfl rfl rfl rfl ?_)
    refine VO.go (VO.light (light_rem rfl rfl (by omega) (by omega)) ?_)
    refine VO.go (VO.nil ?_)
    refine VC.condE rfl (fun h4 => ?_) (fun h4 => ?_)
    · -- Tick
      have hlf : ll = false := by
        cases hc : ll with
        | false => rfl
        | true =>
          have := hxl hc
          simp only [Prod.mk.injEq] at this
          obtain ⟨rfl, _⟩ := this
          exact absurd h4 (by show ¬ ((0 : Nat) : Int) % 6 = 3; decide)
      obtain ⟨t1, t2, t3, t4, t5, t6⟩ := hd_tick hP.a
      obtain ⟨b1, b2⟩ := tl_tick hP.b
      refine VC.region ?_
      refine VO.ent (L' := [repH pa A, repH pb B, r.h sndT, pt xb (triC (x0, x1, x2)) 92]) (Imp.pick 1 rfl (Imp.pick 1 rfl (Imp.pick 1 rfl (Imp.pick 0 rfl Imp.nil)))).ent ?_
      refine VO.go (VO.call (Lc := [repH pa A]) (fun Fr w _ _ _ => tick_spec Fr w hPn.ok i) rfl rfl ?_)
      rintro _ _ ⟨sa, sc, rfl, rfl⟩
      refine VO.ent (L' := [repH pb B, repH pa (tickR A).1, slH sndT 30 sa (tickR A).2.length sc (flat sndC (tickR A).2), r.h sndT, pt xb (triC (x0, x1, x2)) 92]) (Imp.pick 2 rfl (Imp.pick 0 rfl (Imp.pick 0 rfl (Imp.pick 0 rfl (Imp.pick 0 rfl Imp.nil))))).ent ?_
      refine VO.go (VO.call (Lc := [repH pb B]) (fun Fr w _ _ _ => tick_spec Fr w hPb.ok i) rfl rfl ?_)
      rintro _ _ ⟨ta, tc, rfl, rfl⟩
      (repeat (first|refine zS ?_|refine zR ?_|refine zB ?_|refine zL ?_|refine zC ?_|refine zG (zN ?_)|refine zG (zD 0 rfl rfl rfl rfl ?_)))
      exact ⟨⟨(tickR A).1, (tickR B).1, n, (tickR A).2, sa, sc, (tickR B).2, ta, tc⟩, ⟨by dsimp only; rw [b1]; exact hP.gr t1 t2, by dsimp only; omega, fun h => (by rw [hlf] at h; cases h), t2.log,
        fun m hm => (by dsimp only at hm ⊢; rw [t6] at hm; simp at hm; rcases hm with rfl | rfl; exact OkS.of (by decide); exact fun _ => .inr ⟨_, rfl⟩),
        fun m hm => (by dsimp only at hm ⊢; rw [b2] at hm; rw [b1]; simp at hm; rcases hm with rfl | rfl; exact OkT.of (by decide); exact OkT.ack _ _), by dsimp only; rw [t6]; show 2 ≤ 310000; decide, by dsimp only; rw [b2]; show 2 ≤ 310000; decide⟩,
        (Sub.cons rfl (Sub.cons rfl (Sub.cons rfl (Sub.cons rfl (Sub.cons rfl (Sub.cons rfl (Sub.cons rfl (Sub.cons rfl (Sub.cons rfl (Sub.cons rfl (Sub.nil _))))))))))), (Imp.pick 3 rfl (Imp.pick 1 rfl (Imp.pick 1 rfl (Imp.pick 0 rfl (Imp.pick 0 rfl (Imp.pick 0 rfl Imp.nil)))))).ent⟩
    · -- Step
      obtain ⟨t1, t2, t3, t4, t5⟩ := hd_step hP.a i
      have t6 := hd_len hP.a i
      have b3 := tl_stay hP.b i
      have hf := rd_first hP hR (by omega) i
      refine VC.region ?_
      refine VO.ent (L' := [repH pa A, repH pb B, r.h sndT, pt xb (triC (x0, x1, x2)) 92]) (Imp.pick 1 rfl (Imp.pick 1 rfl (Imp.pick 1 rfl (Imp.pick 0 rfl Imp.nil)))).ent ?_
      refine VO.go (VO.call (Lc := [repH pa A]) (fun Fr w _ _ _ => step_spec Fr w hPn.ok i) rfl rfl ?_)
      rintro _ _ ⟨sa, sc, rfl, rfl⟩
      refine VO.ent (L' := [repH pb B, repH pa (stepR A i).1, slH sndT 30 sa (stepR A i).2.length sc (flat sndC (stepR A i).2), r.h sndT, pt xb (triC (x0, x1, x2)) 92]) (Imp.pick 2 rfl (Imp.pick 0 rfl (Imp.pick 0 rfl (Imp.pick 0 rfl (Imp.pick 0 rfl Imp.nil))))).ent ?_
      refine VO.go (VO.call (Lc := [repH pb B]) (fun Fr w _ _ _ => step_spec Fr w hPb.ok i) rfl rfl ?_)
      rintro _ _ ⟨ta, tc, rfl, rfl⟩
      (repeat (first|refine zS ?_|refine zR ?_|refine zB ?_|refine zL ?_|refine zC ?_|refine zG (zN ?_)|refine zG (zD 0 rfl rfl rfl rfl ?_)))
      exact ⟨⟨(stepR A i).1, (stepR B i).1, n, (stepR A i).2, sa, sc, (stepR B i).2, ta, tc⟩, ⟨by dsimp only; rw [b3]; exact hf.1, by dsimp only; omega, fun _ => (by dsimp only; rw [b3]; exact hf.2), t2.log, t3,
        fun m hm => (by dsimp only at hm; rw [b3] at hm; exact absurd hm List.not_mem_nil), Nat.le_trans t6 (by decide), by dsimp only; rw [b3]; exact Nat.zero_le _⟩,
        (Sub.cons rfl (Sub.cons rfl (Sub.cons rfl (Sub.cons rfl (Sub.cons rfl (Sub.cons rfl (Sub.cons rfl (Sub.cons rfl (Sub.cons rfl (Sub.cons rfl (Sub.nil _))))))))))), (Imp.pick 3 rfl (Imp.pick 1 rfl (Imp.pick 1 rfl (Imp.pick 0 rfl (Imp.pick 0 rfl (Imp.pick 0 rfl Imp.nil)))))).ent⟩
  rintro ⟨A1, B1, n1, S, sa, sc, T, ta, tc⟩ ⟨p1, n1l, rd1, log1, s1, t1, ls1, lt1⟩
  dsimp only at p1 n1l rd1 log1 s1 t1 ls1 lt1 ⊢
  refine VC.seq ?_
  refine VC.meetS (σ := PrJ × RL SndM) (fun y => [(1, .slice la l.length lc), (5, .pointer (some ⟨pa, 0, none⟩)), (7, .pointer (some ⟨pb, 0, none⟩)), (9, .int .i64 y.1.n), (10, .slice y.2.addr y.2.xs.length y.2.cap), (11, .int .i64 i), (12, .bool ll), (13, .pointer (some ⟨xb, 0, none⟩)), (14, .slice y.1.sa y.1.S.length y.1.sc), (15, .slice y.1.ta y.1.T.length y.1.tc)])
    (fun y => [slH sndT 30 y.1.sa y.1.S.length y.1.sc (flat sndC y.1.S), slH sndT 30 y.1.ta y.1.T.length y.1.tc (flat sndC y.1.T), repH pa y.1.A, repH pb y.1.B, y.2.h sndT, pt xb (triC (x0, x1, x2)) 92]) (PrN W i (i - l.length) ll) ?_ ?_
  · (repeat (first|refine zS ?_|refine zR ?_|refine zB ?_|refine zL ?_|refine zC ?_|refine zG (zN ?_)|refine zG (zD 0 rfl rfl rfl rfl ?_)))
    refine VC.cond rfl (fun h3 => ?_) (fun h3 => VC.skip ?_)
    rotate_left
    · exact ⟨(⟨A1, B1, n1, S, sa, sc, T, ta, tc⟩, r), ⟨p1, n1l, s1, t1, ls1, lt1, hrok, hrf, fun x hx => (hro x hx).mono log1, fun h => by rw [h3] at h; cases h⟩, (Sub.cons rfl (Sub.cons rfl (Sub.cons rfl (Sub.cons rfl (Sub.cons rfl (Sub.cons rfl (Sub.cons rfl (Sub.cons rfl (Sub.cons rfl (Sub.cons rfl (Sub.nil _))))))))))), Ent.refl⟩
    obtain ⟨k1, k2, k3, k4, k5, k6⟩ := hd_tick p1.a
    have k7 := hd_len k1 i
    obtain ⟨b1, b2⟩ := tl_tick p1.b
    have b3 := tl_stay p1.b i
    have q1 := p1.gr k1 k2
    obtain ⟨s21, s22, s23, s24, s25⟩ := hd_step k1 i
    obtain ⟨rr, f1, f2, f3, f4, f5, f6⟩ := rd_start p1 (rd1 h3) i
    (repeat (first|refine zS ?_|refine zR ?_|refine zB ?_|refine zL ?_|refine zC ?_|refine zG (zN ?_)|refine zG (zD 0 rfl rfl rfl rfl ?_)))
    refine VO.ent (L' := [repH pa A1, repH pb B1, r.h sndT, pt xb (triC (x0, x1, x2)) 92]) (Imp.pick 2 rfl (Imp.pick 2 rfl (Imp.pick 2 rfl (Imp.pick 2 rfl Imp.nil)))).ent ?_
    refine VO.go (VO.call (Lc := [repH pa A1]) (fun Fr w _ _ _ => tick_spec Fr w p1.a.fit.ok i) rfl rfl ?_)
    rintro _ _ ⟨a1, c1, rfl, rfl⟩
    (repeat (first|refine zS ?_|refine zR ?_|refine zB ?_|refine zL ?_|refine zC ?_|refine zG (zN ?_)|refine zG (zD 0 rfl rfl rfl rfl ?_)))
    refine VO.go (VO.call (Lc := [repH pa (tickR A1).1]) (fun Fr w _ _ _ => step_spec Fr w k1.fit.ok i) rfl rfl ?_)
    rintro _ _ ⟨a2, c2, rfl, rfl⟩
    refine VO.opn 1 rfl (HOpn.rl sndT a2 c2 (stepR (tickR A1).1 i).2 sndC_len) ?_
    rintro r2 ⟨hok2, hv2, hx2⟩
    have hlen1 : (tickR A1).2.length = 2 := by rw [k6]; rfl
    refine VO.go (VO.append (m := (stepR (tickR A1).1 i).2.length) (news := flat sndC (stepR (tickR A1).1 i).2) 2 rfl rfl rfl rfl rfl rfl rfl (by have := RL.rd (X := ⟨Tryz.prog, tab, tabOk, 301, Fr, w⟩) (L := [r2.h sndT, repH pa (stepR (tickR A1).1 i).1, slH sndT 30 a1 (tickR A1).2.length c1 (flat sndC (tickR A1).2), repH pb B1, r.h sndT, pt xb (triC (x0, x1, x2)) 92]) sndC_len hok2 0 rfl; rw [hv2, hx2] at this; exact this) (flat_all sndC_one _) (small_bytes (k := 310000) (by omega) (by decide)) (by omega) fun a3 c3 hc3 => ?_)
    refine VO.ent (L' := [repH pb B1, slH sndT 30 a3 ((tickR A1).2.length + (stepR (tickR A1).1 i).2.length) c3 (flat sndC (tickR A1).2 ++ flat sndC (stepR (tickR A1).1 i).2), repH pa (stepR (tickR A1).1 i).1, r.h sndT, pt xb (triC (x0, x1, x2)) 92]) (Imp.pick 3 rfl (Imp.pick 0 rfl (Imp.pick 1 rfl (Imp.pick 1 rfl (Imp.pick 1 rfl Imp.nil))))).ent ?_
    (repeat (first|refine zS ?_|refine zR ?_|refine zB ?_|refine zL ?_|refine zC ?_|refine zG (zN ?_)|refine zG (zD 0 rfl rfl rfl rfl ?_)))
    refine VO.go (VO.call (Lc := [repH pb B1]) (fun Fr w _ _ _ => tick_spec Fr w p1.b.t.fit.ok i) rfl rfl ?_)
    rintro _ _ ⟨a4, c4, rfl, rfl⟩
    (repeat (first|refine zS ?_|refine zR ?_|refine zB ?_|refine zL ?_|refine zC ?_|refine zG (zN ?_)|refine zG (zD 0 rfl rfl rfl rfl ?_)))
    refine VO.go (VO.call (Lc := [repH pb (tickR B1).1]) (fun Fr w _ _ _ => step_spec Fr w (by rw [b1]; exact p1.b.t.fit.ok) i) rfl rfl ?_)
    rintro _ _ ⟨a5, c5, rfl, rfl⟩
    refine VO.opn 1 rfl (HOpn.rl sndT a5 c5 (stepR (tickR B1).1 i).2 sndC_len) ?_
    rintro r5 ⟨hok5, hv5, hx5⟩
    have hlen4 : (tickR B1).2.length = 2 := by rw [b2]; rfl
    have hlen5 : (stepR (tickR B1).1 i).2.length = 0 := by rw [b1, b3]; rfl
    refine VO.go (VO.append (m := (stepR (tickR B1).1 i).2.length) (news := flat sndC (stepR (tickR B1).1 i).2) 2 rfl rfl rfl rfl rfl rfl rfl (by have := RL.rd (X := ⟨Tryz.prog, tab, tabOk, 301, Fr, w⟩) (L := [r5.h sndT, repH pb (stepR (tickR B1).1 i).1, slH sndT 30 a4 (tickR B1).2.length c4 (flat sndC (tickR B1).2), slH sndT 30 a3 ((tickR A1).2.length + (stepR (tickR A1).1 i).2.length) c3 (flat sndC (tickR A1).2 ++ flat sndC (stepR (tickR A1).1 i).2), repH pa (stepR (tickR A1).1 i).1, r.h sndT, pt xb (triC (x0, x1, x2)) 92]) sndC_len hok5 0 rfl; rw [hv5, hx5] at this; exact this) (flat_all sndC_one _) (small_bytes (k := 310000) (by omega) (by decide)) (by omega) fun a6 c6 hc6 => ?_)
    (repeat (first|refine zS ?_|refine zR ?_|refine zB ?_|refine zL ?_|refine zC ?_|refine zG (zN ?_)|refine zG (zD 0 rfl rfl rfl rfl ?_)))
    refine ⟨(⟨(stepR (tickR A1).1 i).1, (stepR (tickR B1).1 i).1, n1, (tickR A1).2 ++ (stepR (tickR A1).1 i).2, a3, c3, (tickR B1).2 ++ (stepR (tickR B1).1 i).2, a6, c6⟩, RL.none), ⟨by dsimp only; rw [f5]; exact f1, n1l, ?_, ?_, by dsimp only; rw [List.length_append]; omega, by dsimp only; rw [List.length_append]; omega, RL.none_ok, Nat.zero_le _, fun x hx => absurd hx List.not_mem_nil, fun _ => ⟨rfl, rr, by dsimp only; rw [f5]; exact f2, by dsimp only; rw [f5]; exact f3, by dsimp only; rw [f5]; exact f4⟩⟩, ?_, ?_⟩
    · intro m hm
      rcases List.mem_append.1 hm with hm | hm
      · rw [k6] at hm
        simp at hm; rcases hm with rfl | rfl
        · exact OkS.of (by decide)
        · exact fun _ => .inr ⟨_, rfl⟩
      · exact s23 m hm
    · intro m hm
      dsimp only at hm ⊢
      rw [b1, b3, b2, List.append_nil] at hm
      rw [f5]
      simp at hm; rcases hm with rfl | rfl
      · exact OkT.of (by decide)
      · exact OkT.ack _ _
    · dsimp only
      rw [List.length_append, List.length_append]
      exact (Sub.cons rfl (Sub.cons rfl (Sub.cons rfl (Sub.cons rfl (Sub.cons rfl (Sub.cons rfl (Sub.cons rfl (Sub.cons rfl (Sub.cons rfl (Sub.cons rfl (Sub.nil _)))))))))))
    · dsimp only
      rw [List.length_append, List.length_append, flat_append, flat_append]
      exact (Imp.pick 3 rfl (Imp.pick 0 rfl (Imp.pick 2 rfl (Imp.pick 1 rfl (Imp.pure trivial (Imp.pick 2 rfl Imp.nil)))))).ent
  rintro ⟨⟨A2, B2, n2, S, sa, sc, T, ta, tc⟩, r2⟩ ⟨p2, n2l, hs2, ht2, ls2, lt2, hr2, hf2, ho2, hl2⟩
  dsimp only at p2 n2l hs2 ht2 ls2 lt2 hr2 hf2 ho2 hl2 ⊢
  refine VC.seq ?_
  refine VC.meetS (σ := RL SndM × RL SndM) (fun y => [(1, .slice la l.length lc), (5, .pointer (some ⟨pa, 0, none⟩)), (7, .pointer (some ⟨pb, 0, none⟩)), (9, .int .i64 n2), (10, .slice r2.addr r2.xs.length r2.cap), (11, .int .i64 i), (12, .bool ll), (13, .pointer (some ⟨xb, 0, none⟩)), (14, .slice y.1.addr y.1.xs.length y.1.cap), (15, .slice y.2.addr y.2.xs.length y.2.cap)])
    (fun y => [repH pa A2, repH pb B2, y.1.h sndT, y.2.h sndT, r2.h sndT, pt xb (triC (x0, x1, x2)) 92]) (fun y => y.1.Ok sndC 30 ∧ y.2.Ok sndC 30 ∧ y.1.xs = S ++ r2.xs ∧ y.2.xs = T) ?_ ?_
  · (repeat (first|refine zS ?_|refine zR ?_|refine zB ?_|refine zL ?_|refine zC ?_|refine zG (zN ?_)|refine zG (zD 0 rfl rfl rfl rfl ?_)))
    refine VO.go (VO.append (m := r2.xs.length) (news := flat sndC r2.xs) 0 rfl rfl rfl rfl rfl rfl rfl (RL.rd (X := ⟨Tryz.prog, tab, tabOk, 301, Fr, w⟩) sndC_len hr2 4 rfl) (flat_all sndC_one _) (small_bytes (k := 320000) (by omega) (by decide)) (by omega) fun a3 c3 hc3 => ?_)
    have el : S.length + r2.xs.length = (S ++ r2.xs).length := by rw [List.length_append]
    rw [el, ← flat_append]
    refine VO.opn 0 rfl (HOpn.rl sndT a3 c3 (S ++ r2.xs) sndC_len) ?_
    rintro rs ⟨hok3, hv3, hx3⟩
    refine VO.opn 1 rfl (HOpn.rl sndT ta tc T sndC_len) ?_
    rintro rt ⟨hok4, hv4, hx4⟩
    have e3 : Value.slice a3 (S ++ r2.xs).length c3 = .slice rs.addr rs.xs.length rs.cap := hv3.symm
    have e4 : Value.slice ta T.length tc = .slice rt.addr rt.xs.length rt.cap := hv4.symm
    rw [e3, e4]
    (repeat (first|refine zS ?_|refine zR ?_|refine zB ?_|refine zL ?_|refine zC ?_|refine zG (zN ?_)|refine zG (zD 0 rfl rfl rfl rfl ?_)))
    exact ⟨(rs, rt), ⟨hok3, hok4, hx3, hx4⟩, (Sub.cons rfl (Sub.cons rfl (Sub.cons rfl (Sub.cons rfl (Sub.cons rfl (Sub.cons rfl (Sub.cons rfl (Sub.cons rfl (Sub.cons rfl (Sub.cons rfl (Sub.nil _))))))))))), (Imp.pick 2 rfl (Imp.pick 2 rfl (Imp.pick 1 rfl (Imp.pick 0 rfl (Imp.pick 0 rfl (Imp.pick 0 rfl Imp.nil)))))).ent⟩
  rintro ⟨rs, rt⟩ ⟨hsok, htok, hsx, htx⟩
  dsimp only at hsok htok hsx htx ⊢
  have hsm : ∀ x ∈ rs.xs, OkS A2.log x := fun x hx => by
    rw [hsx] at hx
    rcases List.mem_append.1 hx with hx | hx
    · exact hs2 x hx
    · exact ho2 x hx
  have htm : ∀ x ∈ rt.xs, OkT B2.log.length x := fun x hx => ht2 x (htx ▸ hx)
  have hsl : rs.xs.length ≤ 320000 := by rw [hsx, List.length_append]; omega
  have htl : rt.xs.length ≤ 320000 := by rw [htx]; omega
  have hL : ll = true → ∃ rr, SF W (i - l.length) B2.log.length rs.xs rt.xs A2 ∧ HR (i - l.length) B2.log.length rr rs.xs A2 ∧ KI W (i - l.length) B2.log.length rr A2 0 A2 B2 := fun h => by
    obtain ⟨e, h⟩ := hl2 h
    rw [hsx, htx, e, List.append_nil]; exact h
  clear hsx htx hl2 hs2 ht2 ls2 lt2
  obtain ⟨rr, hL⟩ : ∃ rr, ll = true → SF W (i - l.length) B2.log.length rs.xs rt.xs A2 ∧ HR (i - l.length) B2.log.length rr rs.xs A2 ∧ KI W (i - l.length) B2.log.length rr A2 0 A2 B2 := by
    cases hc : ll with
    | false => exact ⟨0, fun h => by cases h⟩
    | true => obtain ⟨rr, h⟩ := hL hc; exact ⟨rr, fun _ => h⟩
  have hsm0 := htm
  refine VC.seq ?_
  refine VC.meetS (σ := RepM × RepM) (fun y => [(1, .slice la l.length lc), (5, .pointer (some ⟨pa, 0, none⟩)), (7, .pointer (some ⟨pb, 0, none⟩)), (9, .int .i64 n2), (10, .slice r2.addr r2.xs.length r2.cap), (11, .int .i64 i), (12, .bool ll), (13, .pointer (some ⟨xb, 0, none⟩)), (14, .slice rs.addr rs.xs.length rs.cap), (15, .slice rt.addr rt.xs.length rt.cap)])
    (fun y => [repH pa y.1, repH pb y.2, rs.h sndT, rt.h sndT, r2.h sndT, pt xb (triC (x0, x1, x2)) 92]) (fun y => PrI W n2 y.1 y.2 ∧ y.1.log = A2.log ∧ (ll = true → RdI W (i - l.length + 1) y.1 y.2)) ?_ ?_
  · (repeat (first|refine zS ?_|refine zR ?_|refine zB ?_|refine zL ?_|refine zC ?_|refine zG (zN ?_)|refine zG (zD 0 rfl rfl rfl rfl ?_)))
    refine VC.loop (σ := Nat × RepM × RepM) (fun y => [(1, .slice la l.length lc), (5, .pointer (some ⟨pa, 0, none⟩)), (7, .pointer (some ⟨pb, 0, none⟩)), (9, .int .i64 n2), (10, .slice r2.addr r2.xs.length r2.cap), (11, .int .i64 i), (12, .bool ll), (13, .pointer (some ⟨xb, 0, none⟩)), (14, .slice rs.addr rs.xs.length rs.cap), (15, .slice rt.addr rt.xs.length rt.cap), (17, .int .i64 y.1)])
      (fun y => [repH pa y.2.1, repH pb y.2.2, rs.h sndT, rt.h sndT, r2.h sndT, pt xb (triC (x0, x1, x2)) 92]) (fun y => y.1 ≤ max rs.xs.length rt.xs.length ∧ PrI W n2 y.2.1 y.2.2 ∧ y.2.1.log = A2.log ∧ (∀ x ∈ rt.xs, OkT y.2.2.log.length x) ∧ (ll = true → KI W (i - l.length) B2.log.length rr A2 y.1 y.2.1 y.2.2)) (fun y => max rs.xs.length rt.xs.length - y.1) (0, A2, B2)
      ⟨Nat.zero_le _, p2, rfl, htm, fun h => (hL h).2.2⟩ (Sub.cons rfl (Sub.cons rfl (Sub.cons rfl (Sub.cons rfl (Sub.cons rfl (Sub.cons rfl (Sub.cons rfl (Sub.cons rfl (Sub.cons rfl (Sub.cons rfl (Sub.cons rfl (Sub.nil _)))))))))))) Ent.refl ?_
    rintro ⟨k, A, B⟩ ⟨hk, pk, hlog, htk, hKI⟩
    dsimp only at hk pk hlog htk hKI ⊢
    refine VC.seq ?_
    refine VC.meetS (σ := Unit) (fun _ => [(1, .slice la l.length lc), (5, .pointer (some ⟨pa, 0, none⟩)), (7, .pointer (some ⟨pb, 0, none⟩)), (9, .int .i64 n2), (10, .slice r2.addr r2.xs.length r2.cap), (11, .int .i64 i), (12, .bool ll), (13, .pointer (some ⟨xb, 0, none⟩)), (14, .slice rs.addr rs.xs.length rs.cap), (15, .slice rt.addr rt.xs.length rt.cap), (17, .int .i64 k)]) (fun _ => [repH pa A, repH pb B, rs.h sndT, rt.h sndT, r2.h sndT, pt xb (triC (x0, x1, x2)) 92]) (fun _ => k < rs.xs.length ∨ k < rt.xs.length) ?_ ?_
    · (repeat (first|refine zS ?_|refine zR ?_|refine zB ?_|refine zL ?_|refine zC ?_|refine zG (zN ?_)|refine zG (zD 0 rfl rfl rfl rfl ?_)))
      by_cases h5 : k < rs.xs.length
      · refine VO.go (VO.yes 120 true rfl (decide_eq_true (by omega)) ?_)
        (repeat (first|refine zS ?_|refine zR ?_|refine zB ?_|refine zL ?_|refine zC ?_|refine zG (zN ?_)|refine zG (zD 0 rfl rfl rfl rfl ?_)|refine zG (zU rfl rfl rfl ?_)))
        refine VC.condT rfl (VC.skip ?_)
        exact ⟨(), .inl h5, (Sub.cons rfl (Sub.cons rfl (Sub.cons rfl (Sub.cons rfl (Sub.cons rfl (Sub.cons rfl (Sub.cons rfl (Sub.cons rfl (Sub.cons rfl (Sub.cons rfl (Sub.cons rfl (Sub.nil _)))))))))))), Ent.refl⟩
      · refine VO.go (VO.yes 120 false rfl (decide_eq_false (by omega)) ?_)
        (repeat (first|refine zS ?_|refine zR ?_|refine zB ?_|refine zL ?_|refine zC ?_|refine zG (zN ?_)|refine zG (zD 0 rfl rfl rfl rfl ?_)|refine zG (zU rfl rfl rfl ?_)))
        refine VC.condP rfl (fun h6 => VC.skip ?_) (fun h6 => VC.exit ?_)
        · exact ⟨(), .inr (by omega), (Sub.cons rfl (Sub.cons rfl (Sub.cons rfl (Sub.cons rfl (Sub.cons rfl (Sub.cons rfl (Sub.cons rfl (Sub.cons rfl (Sub.cons rfl (Sub.cons rfl (Sub.cons rfl (Sub.nil _)))))))))))), Ent.refl⟩
        · exact ⟨(A, B), ⟨pk, hlog, fun h => rd_end (hL h).2.1.end_ (hL h).1 (hKI h) (by omega)⟩, (Sub.cons rfl (Sub.cons rfl (Sub.cons rfl (Sub.cons rfl (Sub.cons rfl (Sub.cons rfl (Sub.cons rfl (Sub.cons rfl (Sub.cons rfl (Sub.cons rfl (Sub.nil _))))))))))), Ent.refl⟩
    intro _ hkl
    refine VC.seq ?_
    refine VC.meetS (σ := RepM × RepM) (fun _ => [(1, .slice la l.length lc), (5, .pointer (some ⟨pa, 0, none⟩)), (7, .pointer (some ⟨pb, 0, none⟩)), (9, .int .i64 n2), (10, .slice r2.addr r2.xs.length r2.cap), (11, .int .i64 i), (12, .bool ll), (13, .pointer (some ⟨xb, 0, none⟩)), (14, .slice rs.addr rs.xs.length rs.cap), (15, .slice rt.addr rt.xs.length rt.cap), (17, .int .i64 k)]) (fun y => [repH pa y.1, repH pb y.2, rs.h sndT, rt.h sndT, r2.h sndT, pt xb (triC (x0, x1, x2)) 92]) (fun y => PrI W n2 y.1 y.2 ∧ y.1.log = A2.log ∧ (∀ x ∈ rt.xs, OkT y.2.log.length x) ∧ (ll = true → KI W (i - l.length) B2.log.length rr A2 (k + 1) y.1 y.2)) ?_ ?_
    rotate_left
    · rintro ⟨A', B'⟩ ⟨g1, g2, g3, g4⟩
      (repeat (first|refine zS ?_|refine zR ?_|refine zB ?_|refine zL ?_|refine zC ?_|refine zG (zN ?_)|refine zG (zD 0 rfl rfl rfl rfl ?_)))
      refine VO.go (VO.add rfl rfl (by omega) (by omega) ?_)
      (repeat (first|refine zS ?_|refine zR ?_|refine zB ?_|refine zL ?_|refine zC ?_|refine zG (zN ?_)|refine zG (zD 0 rfl rfl rfl rfl ?_)))
      exact ⟨(k + 1, A', B'), ⟨by dsimp only; omega, g1, g2, g3, g4⟩, by dsimp only; omega, (Sub.cons rfl (Sub.cons rfl (Sub.cons rfl (Sub.cons rfl (Sub.cons rfl (Sub.cons rfl (Sub.cons rfl (Sub.cons rfl (Sub.cons rfl (Sub.cons rfl (Sub.cons rfl (Sub.nil _)))))))))))), Ent.refl⟩
    refine VC.block ?_
    refine VC.seq ?_
    refine VC.meetS (σ := RepM) (fun _ => [(1, .slice la l.length lc), (5, .pointer (some ⟨pa, 0, none⟩)), (7, .pointer (some ⟨pb, 0, none⟩)), (9, .int .i64 n2), (10, .slice r2.addr r2.xs.length r2.cap), (11, .int .i64 i), (12, .bool ll), (13, .pointer (some ⟨xb, 0, none⟩)), (14, .slice rs.addr rs.xs.length rs.cap), (15, .slice rt.addr rt.xs.length rt.cap), (17, .int .i64 k)]) (fun A' => [repH pa A', repH pb B, rs.h sndT, rt.h sndT, r2.h sndT, pt xb (triC (x0, x1, x2)) 92]) (fun A' => PrI W n2 A' B ∧ A'.log = A2.log ∧ (ll = true → KT W (i - l.length) B2.log.length rr A2 k A' B)) ?_ ?_
    · refine VC.seq ?_
      refine VC.meetS (σ := Bool) (fun d => [(1, .slice la l.length lc), (5, .pointer (some ⟨pa, 0, none⟩)), (7, .pointer (some ⟨pb, 0, none⟩)), (9, .int .i64 n2), (10, .slice r2.addr r2.xs.length r2.cap), (11, .int .i64 i), (12, .bool ll), (13, .pointer (some ⟨xb, 0, none⟩)), (14, .slice rs.addr rs.xs.length rs.cap), (15, .slice rt.addr rt.xs.length rt.cap), (17, .int .i64 k), (151, .bool d)]) (fun _ => [repH pa A, repH pb B, rs.h sndT, rt.h sndT, r2.h sndT, pt xb (triC (x0, x1, x2)) 92]) (fun d => (d = true → ∃ x, rt.xs[k]? = some x ∧ x.1 = 0) ∧ (ll = true → d = false → ∀ x, rt.xs[k]? = some x → x.1 ≠ 0)) ?_ ?_
      · refine VC.region ?_
        by_cases h5 : k < rt.xs.length
        rotate_left
        · refine VO.go (VO.yes 132 false rfl (decide_eq_false (by omega)) ?_)
          (repeat (first|refine zS ?_|refine zR ?_|refine zB ?_|refine zL ?_|refine zC ?_|refine zG (zN ?_)|refine zG (zU rfl rfl rfl ?_)))
          refine VO.go (VO.yes 140 false rfl rfl ?_)
          (repeat (first|refine zS ?_|refine zR ?_|refine zB ?_|refine zL ?_|refine zC ?_|refine zG (zN ?_)|refine zG (zU rfl rfl rfl ?_)))
          exact ⟨false, ⟨fun h => (by cases h), fun _ _ x hx => (by rw [List.getElem?_eq_none (by omega)] at hx; cases hx)⟩, (Sub.cons rfl (Sub.cons rfl (Sub.cons rfl (Sub.cons rfl (Sub.cons rfl (Sub.cons rfl (Sub.cons rfl (Sub.cons rfl (Sub.cons rfl (Sub.cons rfl (Sub.cons rfl (Sub.cons rfl (Sub.nil _))))))))))))), Ent.refl⟩
        obtain ⟨x, hx⟩ : ∃ x, rt.xs[k]? = some x := ⟨_, List.getElem?_eq_getElem h5⟩
        obtain ⟨tb, tof, htb, hta, hrd⟩ := snd_ld htok hx
        rw [hta]
        refine VO.go (VO.yes 132 true rfl (decide_eq_true (by omega)) ?_)
        (repeat (first|refine zS ?_|refine zR ?_|refine zB ?_|refine zL ?_|refine zC ?_|refine zG (zN ?_)|refine zG (zU rfl rfl rfl ?_)))
        refine VO.go (VO.light (light_idx k rfl rfl rfl rfl rfl rfl h5) ?_)
        (repeat (first|refine zS ?_|refine zR ?_|refine zB ?_|refine zL ?_|refine zC ?_|refine zG (zN ?_)|refine zG (zU rfl rfl rfl ?_)))
        refine VO.go (VO.load rfl rfl ((hrd 3 rfl).1 _ rfl) ?_)
        by_cases h0 : x.1 = 0
        rotate_left
        · refine VO.go (VO.yes 140 false rfl (by rw [beq_eq_false_iff_ne]; exact h0) ?_)
          (repeat (first|refine zS ?_|refine zR ?_|refine zB ?_|refine zL ?_|refine zC ?_|refine zG (zN ?_)|refine zG (zU rfl rfl rfl ?_)))
          exact ⟨false, ⟨fun h => (by cases h), fun _ _ y hy => (by rw [hx] at hy; cases hy; exact h0)⟩, (Sub.cons rfl (Sub.cons rfl (Sub.cons rfl (Sub.cons rfl (Sub.cons rfl (Sub.cons rfl (Sub.cons rfl (Sub.cons rfl (Sub.cons rfl (Sub.cons rfl (Sub.cons rfl (Sub.cons rfl (Sub.nil _))))))))))))), Ent.refl⟩
        refine VO.go (VO.yes 140 true rfl (by rw [beq_iff_eq]; exact h0) ?_)
        refine VO.go (VO.split 142 rfl rfl (fun hc => ?_) (fun hc => ?_))
        · (repeat (first|refine zS ?_|refine zR ?_|refine zB ?_|refine zL ?_|refine zC ?_|refine zG (zN ?_)|refine zG (zU rfl rfl rfl ?_)))
          exact ⟨true, ⟨fun _ => ⟨x, hx, h0⟩, fun _ h => (by cases h)⟩, (Sub.cons rfl (Sub.cons rfl (Sub.cons rfl (Sub.cons rfl (Sub.cons rfl (Sub.cons rfl (Sub.cons rfl (Sub.cons rfl (Sub.cons rfl (Sub.cons rfl (Sub.cons rfl (Sub.cons rfl (Sub.nil _))))))))))))), Ent.refl⟩
        · refine VO.go (VO.light (light_idxA 1 rfl rfl rfl rfl rfl rfl (by decide)) ?_)
          refine VO.go (VO.ld 5 rfl rfl rfl rfl ?_)
          refine VO.go (VO.light (light_rem rfl rfl (by omega) (by omega)) ?_)
          rw [show (k : Int) % 8 = ((k % 8 : Nat) : Int) from by omega]
          refine VO.go (VO.light (light_shr8 rfl rfl (by omega)) ?_)
          refine VO.go (VO.light (light_and8 (b := 1) rfl rfl (Nat.lt_of_le_of_lt (Nat.div_le_self _ _) hxb.2.1) (by decide)) ?_)
          refine VO.go (VO.nil ?_)
          exact ⟨_, ⟨fun _ => ⟨x, hx, h0⟩, fun h => (by rw [hc] at h; cases h)⟩, (Sub.cons rfl (Sub.cons rfl (Sub.cons rfl (Sub.cons rfl (Sub.cons rfl (Sub.cons rfl (Sub.cons rfl (Sub.cons rfl (Sub.cons rfl (Sub.cons rfl (Sub.cons rfl (Sub.cons rfl (Sub.nil _))))))))))))), Ent.refl⟩
      rintro d ⟨hd1, hd2⟩
      refine VC.cond rfl (fun h3 => ?_) (fun h3 => VC.skip ?_)
      rotate_left
      · exact ⟨A, ⟨pk, hlog, fun h => kt_no (hL h).1 (hKI h) (hd2 h h3)⟩, (Sub.cons rfl (Sub.cons rfl (Sub.cons rfl (Sub.cons rfl (Sub.cons rfl (Sub.cons rfl (Sub.cons rfl (Sub.cons rfl (Sub.cons rfl (Sub.cons rfl (Sub.cons rfl (Sub.nil _)))))))))))), Ent.refl⟩
      obtain ⟨x, hx, h0⟩ := hd1 h3
      obtain ⟨tb, tof, htb, hta, hrd⟩ := snd_ld htok hx
      have hxo := htk x (List.mem_of_getElem? hx)
      have hidx : x.2.entry.index = 0 := by obtain ⟨_, _, _, e, _⟩ := hxo h0; rw [e]; rfl
      obtain ⟨q1, q2, q3, q4⟩ := pr_ack pk hxo h0 i
      rw [hta]
      refine VC.region ?_
      refine VO.go (VO.light (light_idx k rfl rfl rfl rfl rfl rfl (List.getElem?_eq_some_iff.1 hx).1) ?_)
      (repeat (first|refine zS ?_|refine zR ?_|refine zB ?_|refine zL ?_|refine zC ?_|refine zG (zN ?_)|refine zG (zU rfl rfl rfl ?_)))
      refine VO.go (VO.load rfl rfl ((hrd 3 rfl).2 _ rfl rfl) ?_)
      refine VO.go (VO.call (Lc := [repH pa A]) (fun Fr w _ _ _ => take0_spec Fr w pk.a.fit (by rw [pk.a.rlast]; decide) 1 x.2 i (by omega) (by omega)) rfl rfl ?_)
      rintro _ _ ⟨ua, uc, rfl, rfl⟩
      (repeat (first|refine zS ?_|refine zR ?_|refine zB ?_|refine zL ?_|refine zC ?_|refine zG (zN ?_)|refine zG (zU rfl rfl rfl ?_)))
      exact ⟨(takeR A 1 x.2 [] i).1, ⟨q1, q2.trans hlog, fun h => kt_yes (hL h).1 pk (hKI h) hx h0 i⟩, (Sub.cons rfl (Sub.cons rfl (Sub.cons rfl (Sub.cons rfl (Sub.cons rfl (Sub.cons rfl (Sub.cons rfl (Sub.cons rfl (Sub.cons rfl (Sub.cons rfl (Sub.cons rfl (Sub.nil _)))))))))))), (Imp.pick 0 rfl (Imp.pick 1 rfl (Imp.pick 1 rfl (Imp.pick 1 rfl (Imp.pick 1 rfl (Imp.pick 1 rfl Imp.nil)))))).ent⟩
    rintro A' ⟨pk', hlog', hKT⟩
    clear hKI hlog pk
    refine VC.seq ?_
    refine VC.meetS (σ := Bool) (fun d => [(1, .slice la l.length lc), (5, .pointer (some ⟨pa, 0, none⟩)), (7, .pointer (some ⟨pb, 0, none⟩)), (9, .int .i64 n2), (10, .slice r2.addr r2.xs.length r2.cap), (11, .int .i64 i), (12, .bool ll), (13, .pointer (some ⟨xb, 0, none⟩)), (14, .slice rs.addr rs.xs.length rs.cap), (15, .slice rt.addr rt.xs.length rt.cap), (17, .int .i64 k), (183, .bool d)]) (fun _ => [repH pa A', repH pb B, rs.h sndT, rt.h sndT, r2.h sndT, pt xb (triC (x0, x1, x2)) 92]) (fun d => (d = true → ∃ x, rs.xs[k]? = some x ∧ x.1 = 1) ∧ (ll = true → d = false → ∀ x, rs.xs[k]? = some x → x.1 ≠ 1)) ?_ ?_
    · refine VC.region ?_
      by_cases h5 : k < rs.xs.length
      rotate_left
      · refine VO.go (VO.yes 164 false rfl (decide_eq_false (by omega)) ?_)
        (repeat (first|refine zS ?_|refine zR ?_|refine zB ?_|refine zL ?_|refine zC ?_|refine zG (zN ?_)|refine zG (zU rfl rfl rfl ?_)))
        refine VO.go (VO.yes 172 false rfl rfl ?_)
        (repeat (first|refine zS ?_|refine zR ?_|refine zB ?_|refine zL ?_|refine zC ?_|refine zG (zN ?_)|refine zG (zU rfl rfl rfl ?_)))
        exact ⟨false, ⟨fun h => (by cases h), fun _ _ x hx => (by rw [List.getElem?_eq_none (by omega)] at hx; cases hx)⟩, (Sub.cons rfl (Sub.cons rfl (Sub.cons rfl (Sub.cons rfl (Sub.cons rfl (Sub.cons rfl (Sub.cons rfl (Sub.cons rfl (Sub.cons rfl (Sub.cons rfl (Sub.cons rfl (Sub.cons rfl (Sub.nil _))))))))))))), Ent.refl⟩
      obtain ⟨x, hx⟩ : ∃ x, rs.xs[k]? = some x := ⟨_, List.getElem?_eq_getElem h5⟩
      obtain ⟨tb, tof, htb, hta, hrd⟩ := snd_ld hsok hx
      rw [hta]
      refine VO.go (VO.yes 164 true rfl (decide_eq_true (by omega)) ?_)
      (repeat (first|refine zS ?_|refine zR ?_|refine zB ?_|refine zL ?_|refine zC ?_|refine zG (zN ?_)|refine zG (zU rfl rfl rfl ?_)))
      refine VO.go (VO.light (light_idx k rfl rfl rfl rfl rfl rfl h5) ?_)
      (repeat (first|refine zS ?_|refine zR ?_|refine zB ?_|refine zL ?_|refine zC ?_|refine zG (zN ?_)|refine zG (zU rfl rfl rfl ?_)))
      refine VO.go (VO.load rfl rfl ((hrd 2 rfl).1 _ rfl) ?_)
      by_cases h0 : x.1 = 1
      rotate_left
      · refine VO.go (VO.yes 172 false rfl (by rw [beq_eq_false_iff_ne]; exact h0) ?_)
        (repeat (first|refine zS ?_|refine zR ?_|refine zB ?_|refine zL ?_|refine zC ?_|refine zG (zN ?_)|refine zG (zU rfl rfl rfl ?_)))
        exact ⟨false, ⟨fun h => (by cases h), fun _ _ y hy => (by rw [hx] at hy; cases hy; exact h0)⟩, (Sub.cons rfl (Sub.cons rfl (Sub.cons rfl (Sub.cons rfl (Sub.cons rfl (Sub.cons rfl (Sub.cons rfl (Sub.cons rfl (Sub.cons rfl (Sub.cons rfl (Sub.cons rfl (Sub.cons rfl (Sub.nil _))))))))))))), Ent.refl⟩
      refine VO.go (VO.yes 172 true rfl (by rw [beq_iff_eq]; exact h0) ?_)
      refine VO.go (VO.split 174 rfl rfl (fun hc => ?_) (fun hc => ?_))
      · (repeat (first|refine zS ?_|refine zR ?_|refine zB ?_|refine zL ?_|refine zC ?_|refine zG (zN ?_)|refine zG (zU rfl rfl rfl ?_)))
        exact ⟨true, ⟨fun _ => ⟨x, hx, h0⟩, fun _ h => (by cases h)⟩, (Sub.cons rfl (Sub.cons rfl (Sub.cons rfl (Sub.cons rfl (Sub.cons rfl (Sub.cons rfl (Sub.cons rfl (Sub.cons rfl (Sub.cons rfl (Sub.cons rfl (Sub.cons rfl (Sub.cons rfl (Sub.nil _))))))))))))), Ent.refl⟩
      · refine VO.go (VO.light (light_idxA 2 rfl rfl rfl rfl rfl rfl (by decide)) ?_)
        refine VO.go (VO.ld 5 rfl rfl rfl rfl ?_)
        refine VO.go (VO.light (light_rem rfl rfl (by omega) (by omega)) ?_)
        rw [show (k : Int) % 8 = ((k % 8 : Nat) : Int) from by omega]
        refine VO.go (VO.light (light_shr8 rfl rfl (by omega)) ?_)
        refine VO.go (VO.light (light_and8 (b := 1) rfl rfl (Nat.lt_of_le_of_lt (Nat.div_le_self _ _) hxb.2.2) (by decide)) ?_)
        refine VO.go (VO.nil ?_)
        exact ⟨_, ⟨fun _ => ⟨x, hx, h0⟩, fun h => (by rw [hc] at h; cases h)⟩, (Sub.cons rfl (Sub.cons rfl (Sub.cons rfl (Sub.cons rfl (Sub.cons rfl (Sub.cons rfl (Sub.cons rfl (Sub.cons rfl (Sub.cons rfl (Sub.cons rfl (Sub.cons rfl (Sub.cons rfl (Sub.nil _))))))))))))), Ent.refl⟩
    rintro d ⟨hd1, hd2⟩
    refine VC.cond rfl (fun h3 => ?_) (fun h3 => VC.skip ?_)
    rotate_left
    · exact ⟨(A', B), ⟨pk', hlog', htk, fun h => ki_no (hL h).2.1.no (hL h).1 (hKT h) hkl (hd2 h h3)⟩, (Sub.cons rfl (Sub.cons rfl (Sub.cons rfl (Sub.cons rfl (Sub.cons rfl (Sub.cons rfl (Sub.cons rfl (Sub.cons rfl (Sub.cons rfl (Sub.cons rfl (Sub.cons rfl (Sub.nil _)))))))))))), Ent.refl⟩
    obtain ⟨x, hx, h0⟩ := hd1 h3
    obtain ⟨tb, tof, htb, hta, hrd⟩ := snd_ld hsok hx
    have hxo : OkS A'.log x := by rw [hlog']; exact hsm x (List.mem_of_getElem? hx)
    have hidx : 0 ≤ x.2.entry.index ∧ x.2.entry.index ≤ 5000 := by
      rcases hxo h0 with ⟨kk, e, he, e2⟩ | ⟨ii, e2⟩
      · have h7 := pk'.a.lok.idx he
        have h8 := (List.getElem?_eq_some_iff.1 he).1
        have h9 := pk'.a.cnt
        rw [e2]; show 0 ≤ e.index ∧ e.index ≤ 5000
        omega
      · rw [e2]; show (0 : Int) ≤ 0 ∧ (0 : Int) ≤ 5000
        omega
    obtain ⟨q1, q1l, q2, q3, q4, q5⟩ := pr_fwd pk' hxo h0 i
    rw [hta]
    refine VC.seq (VC.region ?_)
    refine VO.go (VO.light (light_idx k rfl rfl rfl rfl rfl rfl (List.getElem?_eq_some_iff.1 hx).1) ?_)
    (repeat (first|refine zS ?_|refine zR ?_|refine zB ?_|refine zL ?_|refine zC ?_|refine zG (zN ?_)|refine zG (zU rfl rfl rfl ?_)))
    refine VO.go (VO.load rfl rfl ((hrd 2 rfl).2 _ rfl rfl) ?_)
    refine VO.ent (L' := [repH pb B, repH pa A', rs.h sndT, rt.h sndT, r2.h sndT, pt xb (triC (x0, x1, x2)) 92]) (Imp.perm (List.Perm.swap _ _ _)).ent ?_
    refine VO.go (VO.call (Lc := [repH pb B]) (fun Fr w _ _ _ => take0_spec Fr w pk'.b.t.fit (by rw [pk'.b.t.rlast]; decide) 0 x.2 i (by omega) (by omega)) rfl rfl ?_)
    rintro _ _ ⟨ua, uc, rfl, rfl⟩
    refine VO.opn 1 rfl (HOpn.rl sndT ua uc (takeR B 0 x.2 [] i).2 sndC_len) ?_
    rintro ru ⟨huok, huv, hux⟩
    have eu : Value.slice ua (takeR B 0 x.2 [] i).2.length uc = .slice ru.addr ru.xs.length ru.cap := huv.symm
    rw [eu]
    rw [← hux] at q1l q3 q4
    generalize hC : (takeR B 0 x.2 [] i).1 = C at q1 q2 q3 q4 q5 ⊢
    rw [← hta]
    (repeat (first|refine zS ?_|refine zR ?_|refine zB ?_|refine zL ?_|refine zC ?_|refine zG (zN ?_)|refine zG (zU rfl rfl rfl ?_)))
    refine VC.loop (σ := Nat × RepM) (fun y => [(1, .slice la l.length lc), (5, .pointer (some ⟨pa, 0, none⟩)), (7, .pointer (some ⟨pb, 0, none⟩)), (9, .int .i64 n2), (10, .slice r2.addr r2.xs.length r2.cap), (11, .int .i64 i), (12, .bool ll), (13, .pointer (some ⟨xb, 0, none⟩)), (14, .slice rs.addr rs.xs.length rs.cap), (15, .slice rt.addr rt.xs.length rt.cap), (17, .int .i64 k), (18, .slice ru.addr ru.xs.length ru.cap), (19, .int .i64 y.1)]) (fun y => [repH pa y.2, repH pb C, ru.h sndT, rs.h sndT, rt.h sndT, r2.h sndT, pt xb (triC (x0, x1, x2)) 92]) (fun y => y.1 ≤ ru.xs.length ∧ JI W n2 ll ru.xs A' y.1 y.2 C) (fun y => ru.xs.length - y.1) (0, A')
      ⟨Nat.zero_le _, ji_start q1 q4 (fun h _ => (hKT h).pg (kt_pos (hL h).1 hx h0))⟩ (Sub.cons rfl (Sub.cons rfl (Sub.cons rfl (Sub.cons rfl (Sub.cons rfl (Sub.cons rfl (Sub.cons rfl (Sub.cons rfl (Sub.cons rfl (Sub.cons rfl (Sub.cons rfl (Sub.cons rfl (Sub.cons rfl (Sub.nil _)))))))))))))) (Imp.pick 2 rfl (Imp.pick 1 rfl (Imp.pick 0 rfl Imp.refl))).ent ?_
    rintro ⟨j, Q⟩ ⟨hj, hJ⟩
    dsimp only at hj hJ ⊢
    (repeat (first|refine zS ?_|refine zR ?_|refine zB ?_|refine zL ?_|refine zC ?_|refine zG (zN ?_)|refine zG (zU rfl rfl rfl ?_)))
    refine VC.condP rfl (fun h5 => VC.skip ?_) (fun h5 => VC.exit ?_)
    rotate_left
    · exact ⟨(Q, C), ⟨hJ.p, hJ.log.trans hlog', fun y hy => (htk y hy).mono q2.length_le, fun h => ki_yes (hL h).2.1.no (hL h).1 pk' (hKT h) hx h0 hxo i hC.symm hJ.log hJ.adm (hJ.pg h (by omega))⟩, (Sub.cons rfl (Sub.cons rfl (Sub.cons rfl (Sub.cons rfl (Sub.cons rfl (Sub.cons rfl (Sub.cons rfl (Sub.cons rfl (Sub.cons rfl (Sub.cons rfl (Sub.cons rfl (Sub.nil _)))))))))))), (Imp.pick 0 rfl (Imp.pick 0 rfl (Imp.pick 1 rfl (Imp.pick 1 rfl (Imp.pick 1 rfl (Imp.pick 1 rfl Imp.nil)))))).ent⟩
    have h5 : j < ru.xs.length := by omega
    refine VC.seq ?_
    refine VC.meetS (σ := RepM) (fun _ => [(1, .slice la l.length lc), (5, .pointer (some ⟨pa, 0, none⟩)), (7, .pointer (some ⟨pb, 0, none⟩)), (9, .int .i64 n2), (10, .slice r2.addr r2.xs.length r2.cap), (11, .int .i64 i), (12, .bool ll), (13, .pointer (some ⟨xb, 0, none⟩)), (14, .slice rs.addr rs.xs.length rs.cap), (15, .slice rt.addr rt.xs.length rt.cap), (17, .int .i64 k), (18, .slice ru.addr ru.xs.length ru.cap), (19, .int .i64 j)]) (fun Q' => [repH pa Q', repH pb C, ru.h sndT, rs.h sndT, rt.h sndT, r2.h sndT, pt xb (triC (x0, x1, x2)) 92]) (fun Q' => JI W n2 ll ru.xs A' (j + 1) Q' C) ?_ ?_
    rotate_left
    · intro Q' hJ'
      (repeat (first|refine zS ?_|refine zR ?_|refine zB ?_|refine zL ?_|refine zC ?_|refine zG (zN ?_)|refine zG (zU rfl rfl rfl ?_)))
      refine VO.go (VO.add rfl rfl (by omega) (by omega) ?_)
      (repeat (first|refine zS ?_|refine zR ?_|refine zB ?_|refine zL ?_|refine zC ?_|refine zG (zN ?_)|refine zG (zU rfl rfl rfl ?_)))
      exact ⟨(j + 1, Q'), ⟨h5, hJ'⟩, by dsimp only; omega, (Sub.cons rfl (Sub.cons rfl (Sub.cons rfl (Sub.cons rfl (Sub.cons rfl (Sub.cons rfl (Sub.cons rfl (Sub.cons rfl (Sub.cons rfl (Sub.cons rfl (Sub.cons rfl (Sub.cons rfl (Sub.cons rfl (Sub.nil _)))))))))))))), Ent.refl⟩
    refine VC.block ?_
    refine VC.seq ?_
    refine VC.meetS (σ := Bool) (fun d => [(1, .slice la l.length lc), (5, .pointer (some ⟨pa, 0, none⟩)), (7, .pointer (some ⟨pb, 0, none⟩)), (9, .int .i64 n2), (10, .slice r2.addr r2.xs.length r2.cap), (11, .int .i64 i), (12, .bool ll), (13, .pointer (some ⟨xb, 0, none⟩)), (14, .slice rs.addr rs.xs.length rs.cap), (15, .slice rt.addr rt.xs.length rt.cap), (17, .int .i64 k), (18, .slice ru.addr ru.xs.length ru.cap), (19, .int .i64 j), (217, .bool d)]) (fun _ => [repH pa Q, repH pb C, ru.h sndT, rs.h sndT, rt.h sndT, r2.h sndT, pt xb (triC (x0, x1, x2)) 92]) (fun d => (d = true → ∃ x, ru.xs[j]? = some x ∧ x.1 = 0) ∧ (ll = true → d = false → ∀ x, ru.xs[j]? = some x → x.1 ≠ 0)) ?_ ?_
    · refine VC.region ?_
      obtain ⟨y, hy⟩ : ∃ y, ru.xs[j]? = some y := ⟨_, List.getElem?_eq_getElem h5⟩
      obtain ⟨yb, yof, hyb, hya, hyd⟩ := snd_ld huok hy
      rw [hya]
      refine VO.go (VO.light (light_idx j rfl rfl rfl rfl rfl rfl h5) ?_)
      (repeat (first|refine zS ?_|refine zR ?_|refine zB ?_|refine zL ?_|refine zC ?_|refine zG (zN ?_)|refine zG (zU rfl rfl rfl ?_)))
      refine VO.go (VO.load rfl rfl ((hyd 2 rfl).1 _ rfl) ?_)
      by_cases hy0 : y.1 = 0
      rotate_left
      · refine VO.go (VO.yes 204 false rfl (by rw [beq_eq_false_iff_ne]; exact hy0) ?_)
        (repeat (first|refine zS ?_|refine zR ?_|refine zB ?_|refine zL ?_|refine zC ?_|refine zG (zN ?_)|refine zG (zU rfl rfl rfl ?_)))
        exact ⟨false, ⟨fun h => (by cases h), fun _ _ z hz => (by rw [hy] at hz; cases hz; exact hy0)⟩, (Sub.cons rfl (Sub.cons rfl (Sub.cons rfl (Sub.cons rfl (Sub.cons rfl (Sub.cons rfl (Sub.cons rfl (Sub.cons rfl (Sub.cons rfl (Sub.cons rfl (Sub.cons rfl (Sub.cons rfl (Sub.cons rfl (Sub.cons rfl (Sub.nil _))))))))))))))), Ent.refl⟩
      refine VO.go (VO.yes 204 true rfl (by rw [beq_iff_eq]; exact hy0) ?_)
      refine VO.go (VO.split 206 rfl rfl (fun hc => ?_) (fun hc => ?_))
      · (repeat (first|refine zS ?_|refine zR ?_|refine zB ?_|refine zL ?_|refine zC ?_|refine zG (zN ?_)|refine zG (zU rfl rfl rfl ?_)))
        exact ⟨true, ⟨fun _ => ⟨y, hy, hy0⟩, fun _ h => (by cases h)⟩, (Sub.cons rfl (Sub.cons rfl (Sub.cons rfl (Sub.cons rfl (Sub.cons rfl (Sub.cons rfl (Sub.cons rfl (Sub.cons rfl (Sub.cons rfl (Sub.cons rfl (Sub.cons rfl (Sub.cons rfl (Sub.cons rfl (Sub.cons rfl (Sub.nil _))))))))))))))), Ent.refl⟩
      · refine VO.go (VO.light (light_idxA 1 rfl rfl rfl rfl rfl rfl (by decide)) ?_)
        refine VO.go (VO.ld 6 rfl rfl rfl rfl ?_)
        refine VO.go (VO.add rfl rfl (by omega) (by omega) ?_)
        refine VO.go (VO.light (light_rem rfl rfl (by omega) (by omega)) ?_)
        rw [show ((j : Int) + (k : Int)) % 8 = (((j + k) % 8 : Nat) : Int) from by omega]
        refine VO.go (VO.light (light_shr8 rfl rfl (by omega)) ?_)
        refine VO.go (VO.light (light_and8 (b := 1) rfl rfl (Nat.lt_of_le_of_lt (Nat.div_le_self _ _) hxb.2.1) (by decide)) ?_)
        refine VO.go (VO.nil ?_)
        exact ⟨_, ⟨fun _ => ⟨y, hy, hy0⟩, fun h => (by rw [hc] at h; cases h)⟩, (Sub.cons rfl (Sub.cons rfl (Sub.cons rfl (Sub.cons rfl (Sub.cons rfl (Sub.cons rfl (Sub.cons rfl (Sub.cons rfl (Sub.cons rfl (Sub.cons rfl (Sub.cons rfl (Sub.cons rfl (Sub.cons rfl (Sub.cons rfl (Sub.nil _))))))))))))))), Ent.refl⟩
    rintro d2 ⟨hd3, hd4⟩
    refine VC.cond rfl (fun h6 => ?_) (fun h6 => VC.skip ?_)
    rotate_left
    · obtain ⟨y, hy⟩ : ∃ y, ru.xs[j]? = some y := ⟨_, List.getElem?_eq_getElem h5⟩
      exact ⟨Q, ji_no hJ q4 hy (fun h => hd4 h h6 y hy), (Sub.cons rfl (Sub.cons rfl (Sub.cons rfl (Sub.cons rfl (Sub.cons rfl (Sub.cons rfl (Sub.cons rfl (Sub.cons rfl (Sub.cons rfl (Sub.cons rfl (Sub.cons rfl (Sub.cons rfl (Sub.cons rfl (Sub.nil _)))))))))))))), Ent.refl⟩
    obtain ⟨y, hy, hy0⟩ := hd3 h6
    obtain ⟨yb, yof, hyb, hya, hyd⟩ := snd_ld huok hy
    have hidy : y.2.entry.index = 0 := by obtain ⟨_, _, _, e, _⟩ := q3 y (List.mem_of_getElem? hy) hy0; rw [e]; rfl
    rw [hya]
    refine VC.region ?_
    refine VO.go (VO.light (light_idx j rfl rfl rfl rfl rfl rfl h5) ?_)
    (repeat (first|refine zS ?_|refine zR ?_|refine zB ?_|refine zL ?_|refine zC ?_|refine zG (zN ?_)|refine zG (zU rfl rfl rfl ?_)))
    refine VO.go (VO.load rfl rfl ((hyd 2 rfl).2 _ rfl rfl) ?_)
    refine VO.go (VO.call (Lc := [repH pa Q]) (fun Fr w _ _ _ => take0_spec Fr w hJ.p.a.fit (by rw [hJ.p.a.rlast]; decide) 1 y.2 i (by omega) (by omega)) rfl rfl ?_)
    rintro _ _ ⟨va, vc, rfl, rfl⟩
    (repeat (first|refine zS ?_|refine zR ?_|refine zB ?_|refine zL ?_|refine zC ?_|refine zG (zN ?_)|refine zG (zU rfl rfl rfl ?_)))
    exact ⟨(takeR Q 1 y.2 [] i).1, ji_yes hJ q4 q3 hy hy0 i, (Sub.cons rfl (Sub.cons rfl (Sub.cons rfl (Sub.cons rfl (Sub.cons rfl (Sub.cons rfl (Sub.cons rfl (Sub.cons rfl (Sub.cons rfl (Sub.cons rfl (Sub.cons rfl (Sub.cons rfl (Sub.cons rfl (Sub.nil _)))))))))))))), (Imp.pick 0 rfl (Imp.pick 1 rfl (Imp.pick 1 rfl (Imp.pick 1 rfl (Imp.pick 1 rfl (Imp.pick 1 rfl (Imp.pick 1 rfl Imp.nil))))))).ent⟩
  rintro ⟨A3, B3⟩ ⟨p3, hlog3, hR3⟩
  dsimp only at p3 hlog3 hR3 ⊢
  have hsm2 := hsm
  clear hsm htm hL hsm0 htl
  refine VC.seq ?_
  refine VC.meetS (σ := RL SndM) (fun r' => [(1, .slice la l.length lc), (5, .pointer (some ⟨pa, 0, none⟩)), (7, .pointer (some ⟨pb, 0, none⟩)), (9, .int .i64 n2), (10, .slice r'.addr r'.xs.length r'.cap), (11, .int .i64 i)]) (fun r' => [repH pa A3, repH pb B3, r'.h sndT]) (fun r' => r'.Ok sndC 30 ∧ r'.xs.length ≤ 20 ∧ ∀ x ∈ r'.xs, OkS A3.log x) ?_ ?_
  · refine VC.seq ?_
    refine VC.meetS (σ := Bool) (fun d => [(1, .slice la l.length lc), (5, .pointer (some ⟨pa, 0, none⟩)), (7, .pointer (some ⟨pb, 0, none⟩)), (9, .int .i64 n2), (10, .slice r2.addr r2.xs.length r2.cap), (11, .int .i64 i), (12, .bool ll), (13, .pointer (some ⟨xb, 0, none⟩)), (14, .slice rs.addr rs.xs.length rs.cap), (15, .slice rt.addr rt.xs.length rt.cap), (239, .bool d)]) (fun _ => [repH pa A3, repH pb B3, rs.h sndT, rt.h sndT, r2.h sndT, pt xb (triC (x0, x1, x2)) 92]) (fun d => d = true → 0 < rs.xs.length ∧ r2.xs.length < 20) ?_ ?_
    · refine VC.region ?_
      by_cases h5 : 0 < rs.xs.length
      rotate_left
      · refine VO.go (VO.yes 229 false rfl (decide_eq_false (by omega)) ?_)
        (repeat (first|refine zS ?_|refine zR ?_|refine zB ?_|refine zL ?_|refine zC ?_|refine zG (zN ?_)|refine zG (zU rfl rfl rfl ?_)))
        refine VO.go (VO.yes 235 false rfl rfl ?_)
        (repeat (first|refine zS ?_|refine zR ?_|refine zB ?_|refine zL ?_|refine zC ?_|refine zG (zN ?_)|refine zG (zU rfl rfl rfl ?_)))
        exact ⟨false, fun h => (by cases h), (Sub.cons rfl (Sub.cons rfl (Sub.cons rfl (Sub.cons rfl (Sub.cons rfl (Sub.cons rfl (Sub.cons rfl (Sub.cons rfl (Sub.cons rfl (Sub.cons rfl (Sub.cons rfl (Sub.nil _)))))))))))), Ent.refl⟩
      refine VO.go (VO.yes 229 true rfl (decide_eq_true (by omega)) ?_)
      refine VO.go (VO.light (light_idxA 0 rfl rfl rfl rfl rfl rfl (by decide)) ?_)
      refine VO.go (VO.ld 5 rfl rfl rfl rfl ?_)
      refine VO.go (VO.light (light_rem rfl rfl (by omega) (by omega)) ?_)
      refine VO.go (VO.split 235 rfl rfl (fun hc => ?_) (fun hc => ?_))
      · refine VO.go (VO.nil ?_)
        exact ⟨_, fun h => ⟨h5, (by have := of_decide_eq_true h; omega)⟩, (Sub.cons rfl (Sub.cons rfl (Sub.cons rfl (Sub.cons rfl (Sub.cons rfl (Sub.cons rfl (Sub.cons rfl (Sub.cons rfl (Sub.cons rfl (Sub.cons rfl (Sub.cons rfl (Sub.nil _)))))))))))), Ent.refl⟩
      · (repeat (first|refine zS ?_|refine zR ?_|refine zB ?_|refine zL ?_|refine zC ?_|refine zG (zN ?_)|refine zG (zU rfl rfl rfl ?_)))
        exact ⟨false, fun h => (by cases h), (Sub.cons rfl (Sub.cons rfl (Sub.cons rfl (Sub.cons rfl (Sub.cons rfl (Sub.cons rfl (Sub.cons rfl (Sub.cons rfl (Sub.cons rfl (Sub.cons rfl (Sub.cons rfl (Sub.nil _)))))))))))), Ent.refl⟩
    rintro d hd
    refine VC.cond rfl (fun h3 => ?_) (fun h3 => VC.skip ?_)
    rotate_left
    · exact ⟨r2, ⟨hr2, hf2, fun x hx => (by rw [hlog3]; exact ho2 x hx)⟩, (Sub.cons rfl (Sub.cons rfl (Sub.cons rfl (Sub.cons rfl (Sub.cons rfl (Sub.cons rfl (Sub.nil _))))))), (Imp.pick 0 rfl (Imp.pick 0 rfl (Imp.pick 2 rfl Imp.nil))).ent⟩
    obtain ⟨h5, h6⟩ := hd h3
    obtain ⟨x, hx⟩ : ∃ x, rs.xs[0]? = some x := ⟨_, List.getElem?_eq_getElem h5⟩
    obtain ⟨tb, tof, htb, hta, hrd⟩ := RL.Ok.ld (t := sndT) hsok hx (sndC_len x)
    have hxo : OkS A3.log x := by rw [hlog3]; exact hsm2 x (List.mem_of_getElem? hx)
    rw [hta]
    refine VC.draw (.take 0 (ts 2 3 (.two 1 5 (.only 5 (.only 6 (.take 7 .nil))) (.only 1 (.only 6 (.take 7 .nil)))))) (by kernel_rfl) (by decide +kernel) ?_
    refine VA.go (VA.light rfl (light_idx 0 rfl rfl rfl rfl rfl rfl h5) ?_)
    refine VA.go (VA.load rfl rfl rfl ((hrd 2 rfl).1 _ rfl rfl) ?_)
    refine VA.keepS (cond := fun L' => rs.h sndT ∈ L') (fun S hS => ?_) (fun L' hL' => ?_)
    rotate_left
    · obtain ⟨k1, hk1⟩ := List.getElem?_of_mem hL'
      exact (by (try refine Pd.st ?_);(repeat (first|exact Pd.nil|exact Pd.fnil|refine Pd.inner ?_|refine Pd.skip (by decide +kernel) ?_|refine zf (RdL.blk ((hrd k1 hk1).1 _ rfl rfl) rfl) ?_|refine zf (((hrd k1 hk1).1 _ rfl rfl)) ?_|refine zc (RdL.blk ((hrd k1 hk1).1 _ rfl rfl) rfl) ?_|refine zc (((hrd k1 hk1).1 _ rfl rfl)) ?_)))
    refine VA.ent (L' := slH sndT 30 none 0 0 [] :: [repH pa A3, repH pb B3, rs.h sndT, rt.h sndT, r2.h sndT, pt xb (triC (x0, x1, x2)) 92]) (Imp.slNil Imp.refl).ent ?_
    refine VA.go (VA.two rfl rfl rfl rfl rfl (OpT.append (m := r2.xs.length) (news := flat sndC r2.xs) 0 rfl rfl rfl rfl rfl rfl rfl (RL.rd (t := sndT) sndC_len hr2 5 rfl) (flat_all sndC_one _) (small_bytes (k := 20) (by omega) (by decide)) (by omega))
      rfl rfl rfl (OpT.buildSlice (n := 1) (pv := [(0, .agg (sndC x).toArray)]) (cells := sndC x) rfl rfl rfl rfl (by decide) (fill_one rfl rfl rfl)) (fun v L' h => by obtain ⟨a1, c1, rfl, hc1, rfl⟩ := h; exact Pd.st (by (repeat refine Pd.filter ?_); exact hS _ (by simp))) (fun v L' h => by obtain ⟨nb, rfl, rfl⟩ := h; exact Pd.st (by (repeat refine Pd.filter ?_); exact hS _ (by simp))) ?_ ?_)
    · rintro v L' ⟨a1, c1, rfl, hc1, rfl⟩
      refine VA.go (VA.opP (OpT.buildSlice (n := 1) (pv := [(0, .agg (sndC x).toArray)]) (cells := sndC x) rfl rfl rfl rfl (by decide) (fill_one rfl rfl rfl)) rfl (fun v L' h => by obtain ⟨nb, rfl, rfl⟩ := h; exact (by (repeat refine Pd.filter ?_); exact hS _ (by simp))) ?_)
      rintro v L' ⟨nb, rfl, rfl⟩
      refine VA.go (VA.opP (OpT.append (m := 1) (news := sndC x) 1 rfl rfl rfl rfl rfl rfl rfl (RdRow.pt 0 rfl rfl rfl) rfl (small_bytes (k := 21) (by omega) (by decide)) (by omega)) rfl (fun v L' h => by obtain ⟨a2, c2, rfl, hc2, rfl⟩ := h; exact (by (repeat refine Pd.filter ?_); exact hS _ (by simp))) ?_)
      rintro v L' ⟨a2, c2, rfl, hc2, rfl⟩
      refine VA.ent (L' := slH sndT 30 a2 (r2.xs ++ [x]).length c2 (flat sndC (r2.xs ++ [x])) :: pt nb (sndC x) sndT :: [repH pa A3, repH pb B3, rs.h sndT, rt.h sndT, r2.h sndT, pt xb (triC (x0, x1, x2)) 92]) (Imp.of_eq (by
        have e : slH sndT 30 a2 (0 + r2.xs.length + 1) c2 ([] ++ flat sndC r2.xs ++ sndC x) = slH sndT 30 a2 (r2.xs ++ [x]).length c2 (flat sndC (r2.xs ++ [x])) := by simp [flat_append, flat_cons, flat_nil]
        rw [← e]; rfl)).ent ?_
      refine VA.exs _ _ (HOpn.st 0 rfl (HOpn.rl _ a2 c2 (r2.xs ++ [x]) sndC_len)) ?_
      rintro r' ⟨hok', hv', hx'⟩
      (repeat (first|refine yG (yN ?_)|refine yG (yD 0 rfl rfl rfl rfl rfl ?_)))
      have ev : Value.slice a2 (0 + r2.xs.length + 1) c2 = .slice r'.addr r'.xs.length r'.cap := by rw [show Value.slice r'.addr r'.xs.length r'.cap = r'.v from rfl, hv']; simp
      rw [ev]
      exact ⟨r', ⟨hok', by rw [hx', List.length_append]; show r2.xs.length + 1 ≤ 20; omega, fun y hy => (by
        rw [hx'] at hy
        rcases List.mem_append.1 hy with hy | hy
        · rw [hlog3]; exact ho2 y hy
        · rw [List.mem_singleton.1 hy]; exact hxo)⟩, (Sub.cons rfl (Sub.cons rfl (Sub.cons rfl (Sub.cons rfl (Sub.cons rfl (Sub.cons rfl (Sub.nil _))))))), (Imp.pick 2 rfl (Imp.pick 2 rfl (Imp.pick 0 rfl Imp.nil))).ent⟩
    · rintro v L' ⟨nb, rfl, rfl⟩
      refine VA.go (VA.opP (OpT.append (m := r2.xs.length) (news := flat sndC r2.xs) 1 rfl rfl rfl rfl rfl rfl rfl (RL.rd (t := sndT) sndC_len hr2 6 rfl) (flat_all sndC_one _) (small_bytes (k := 20) (by omega) (by decide)) (by omega)) rfl (fun v L' h => by obtain ⟨a1, c1, rfl, hc1, rfl⟩ := h; exact (by (repeat refine Pd.filter ?_); exact hS _ (by simp))) ?_)
      rintro v L' ⟨a1, c1, rfl, hc1, rfl⟩
      refine VA.go (VA.opP (OpT.append (m := 1) (news := sndC x) 0 rfl rfl rfl rfl rfl rfl rfl (RdRow.pt 1 rfl rfl rfl) rfl (small_bytes (k := 21) (by omega) (by decide)) (by omega)) rfl (fun v L' h => by obtain ⟨a2, c2, rfl, hc2, rfl⟩ := h; exact (by (repeat refine Pd.filter ?_); exact hS _ (by simp))) ?_)
      rintro v L' ⟨a2, c2, rfl, hc2, rfl⟩
      refine VA.ent (L' := slH sndT 30 a2 (r2.xs ++ [x]).length c2 (flat sndC (r2.xs ++ [x])) :: pt nb (sndC x) sndT :: [repH pa A3, repH pb B3, rs.h sndT, rt.h sndT, r2.h sndT, pt xb (triC (x0, x1, x2)) 92]) (Imp.of_eq (by
        have e : slH sndT 30 a2 (0 + r2.xs.length + 1) c2 ([] ++ flat sndC r2.xs ++ sndC x) = slH sndT 30 a2 (r2.xs ++ [x]).length c2 (flat sndC (r2.xs ++ [x])) := by simp [flat_append, flat_cons, flat_nil]
        rw [← e]; rfl)).ent ?_
      refine VA.exs _ _ (HOpn.st 0 rfl (HOpn.rl _ a2 c2 (r2.xs ++ [x]) sndC_len)) ?_
      rintro r' ⟨hok', hv', hx'⟩
      (repeat (first|refine yG (yN ?_)|refine yG (yD 0 rfl rfl rfl rfl rfl ?_)))
      have ev : Value.slice a2 (0 + r2.xs.length + 1) c2 = .slice r'.addr r'.xs.length r'.cap := by rw [show Value.slice r'.addr r'.xs.length r'.cap = r'.v from rfl, hv']; simp
      rw [ev]
      exact ⟨r', ⟨hok', by rw [hx', List.length_append]; show r2.xs.length + 1 ≤ 20; omega, fun y hy => (by
        rw [hx'] at hy
        rcases List.mem_append.1 hy with hy | hy
        · rw [hlog3]; exact ho2 y hy
        · rw [List.mem_singleton.1 hy]; exact hxo)⟩, (Sub.cons rfl (Sub.cons rfl (Sub.cons rfl (Sub.cons rfl (Sub.cons rfl (Sub.cons rfl (Sub.nil _))))))), (Imp.pick 2 rfl (Imp.pick 2 rfl (Imp.pick 0 rfl Imp.nil))).ent⟩
  rintro r3 ⟨hr3, hf3, ho3⟩
  have hda := p3.a.fit.ok.win.cap0
  have hdb := p3.b.t.fit.ok.win.cap0
  have hbd := p3.b.done
  have hla := p3.len
  have hcn := p3.a.cnt
  refine VC.seq (VC.region ?_)
  refine VO.go (VO.call (Lc := []) (fun Fr w hF hs hS => log_spec Fr w p3.b.t.fit.ok (hS.at_ 1 rfl)) rfl rfl ?_)
  rintro _ _ ⟨q1, rfl, rfl⟩
  refine VO.go (VO.call (Lc := []) (fun Fr w hF hs hS => log_spec Fr w p3.a.fit.ok (hS.at_ 1 rfl)) rfl rfl ?_)
  rintro _ _ ⟨q2, rfl, rfl⟩
  refine VO.go (VO.callV' (fun Fr w hF hs hS => begins_spec Fr w (hS.at_ 1 rfl) (hS.at_ 0 rfl) (by omega) (by omega) p3.pre) rfl ?_)
  refine VO.go (VO.yes 253 false rfl rfl ?_)
  refine VO.go (VO.call (Lc := []) (fun Fr w hF hs hS => window_spec Fr w p3.a.fit.ok (hS.at_ 2 rfl)) rfl rfl ?_)
  rintro _ _ ⟨w1, rfl, rfl⟩
  refine VO.go (VO.callV' (fun Fr w hF hs hS => Win.done_spec Fr w (hS.blk 0 rfl) hda) rfl ?_)
  refine VO.go (VO.call (Lc := []) (fun Fr w hF hs hS => window_spec Fr w p3.b.t.fit.ok (hS.at_ 4 rfl)) rfl rfl ?_)
  rintro _ _ ⟨w2, rfl, rfl⟩
  refine VO.go (VO.callV' (fun Fr w hF hs hS => Win.done_spec Fr w (hS.blk 0 rfl) hdb) rfl ?_)
  refine VO.go (VO.yes 262 false rfl (decide_eq_false (by have := p3.done; omega)) ?_)
  refine VO.go (VO.call (Lc := []) (fun Fr w hF hs hS => window_spec Fr w p3.b.t.fit.ok (hS.at_ 5 rfl)) rfl rfl ?_)
  rintro _ _ ⟨w3, rfl, rfl⟩
  refine VO.go (VO.callV' (fun Fr w hF hs hS => Win.done_spec Fr w (hS.blk 0 rfl) hdb) rfl ?_)
  refine VO.go (VO.call (Lc := []) (fun Fr w hF hs hS => log_spec Fr w p3.b.t.fit.ok (hS.at_ 6 rfl)) rfl rfl ?_)
  rintro _ _ ⟨q3, rfl, rfl⟩
  refine VO.go (VO.callV' (fun Fr w hF hs hS => Lg.len_spec Fr w (hS.at_ 0 rfl)) rfl ?_)
  (repeat (first|refine zS ?_|refine zR ?_|refine zB ?_|refine zL ?_|refine zC ?_|refine zG (zN ?_)|refine zG (zU rfl rfl rfl ?_)))
  refine VC.condNE (i := B3.win.done) (j := (B3.log.length : Int)) rfl (fun h => absurd hbd h) (fun _ => VC.skip ?_)
  (repeat (first|refine zS ?_|refine zR ?_|refine zB ?_|refine zL ?_|refine zC ?_|refine zG (zN ?_)|refine zG (zU rfl rfl rfl ?_)))
  refine VO.go (VO.add rfl rfl (by omega) (by omega) ?_)
  (repeat (first|refine zS ?_|refine zR ?_|refine zB ?_|refine zL ?_|refine zC ?_|refine zG (zN ?_)|refine zG (zU rfl rfl rfl ?_)))
  refine ⟨⟨i + 1, A3, B3, n2, r3⟩, ⟨by dsimp only; omega, p3, n2l, ?_, hr3, hf3, ho3⟩, by dsimp only; omega, (Sub.cons rfl (Sub.cons rfl (Sub.cons rfl (Sub.cons rfl (Sub.cons rfl (Sub.cons rfl (Sub.nil _))))))), (Imp.pick 6 rfl (Imp.pick 6 rfl (Imp.pick 6 rfl Imp.nil))).ent⟩
  dsimp only
  cases hc : ll with
  | false =>
    have : ¬ l.length ≤ i := fun hh => by rw [hlt.2 hh] at hc; cases hc
    exact ⟨fun h => by omega, fun h => by omega, fun h => by omega⟩
  | true =>
    have := hlt.1 hc
    rw [show i + 1 - l.length = i - l.length + 1 by omega]
    exact hR3 hc
end Go.Proofs.YtbbnmgakmcppdaaGreat.Rep
namespace Go.Proofs.YtbbnmgakmcppdaaGreat.Rep
open Go Go.Proofs.YtbbnmgakmcppdaaGreat.Vg Go.ChangeShapes Go.WideShapes Go.ChangeAt Go.RowKit Go.Proofs.YtbbnmgakmcppdaaGreat.Sched Go.Proofs.YtbbnmgakmcppdaaGreat.Conf Go.Proofs.YtbbnmgakmcppdaaGreat.Adm

section
variable {H : Type} {enc : TypeId × Value → H} {P : Program} {w : World} {base : Nat} {spare : Nat → Bool} {held : Bool}
theorem arr_flat {t e : TypeId} {n : Nat} (ht : P.underlying t = some (.array n e)) (hce : P.cellsOf e = 1) (hc : P.cellsOf t = n) (fuel : Nat) (cs : List Value) (x : DataW H × List MemPlace) (hx : DataW.trod enc P w base spare held fuel t cs = some x) :
    cs.length = (List.replicate n e).length ∧ ∀ (i : Nat) (v : Value) (u : TypeId), cs[i]? = some v → (List.replicate n e)[i]? = some u → Leaf enc P w base spare held u v := by
  obtain ⟨xs, m, _, _, hlen, hxs, hall⟩ := DataW.trod_array ht hx
  rw [hce] at hall
  rw [hc] at hlen
  refine ⟨by rw [hlen]; simp, fun i v u hv hu => ?_⟩
  have hi : i < n := by have := (List.getElem?_eq_some_iff.1 hv).1; omega
  rw [List.getElem?_replicate, if_pos hi] at hu
  obtain rfl := Option.some.inj hu
  have h := hall i hi
  rw [List.getElem?_eq_getElem (show i < xs.length by omega)] at h
  have e1 : (cs.drop (i * 1)).take 1 = [v] := by
    have hl := (List.getElem?_eq_some_iff.1 hv).1
    rw [Nat.mul_one, List.drop_eq_getElem_cons hl, List.take_succ_cons, List.take_zero]
    rw [List.getElem?_eq_getElem hl] at hv
    rw [Option.some.inj hv]
  rw [e1] at h
  exact ⟨_, _, h⟩
theorem open_rowsG {α : Type} (cells : α → List Value) (φ : α → Prop) {t e : TypeId} {ls : List TypeId} (ht : P.underlying t = some (.slice e))
    (hf : ∀ (fuel : Nat) (cs : List Value) (x : DataW H × List MemPlace), DataW.trod enc P w base spare held fuel e cs = some x → cs.length = ls.length ∧ ∀ (i : Nat) (v : Value) (u : TypeId), cs[i]? = some v → ls[i]? = some u → Leaf enc P w base spare held u v) (hce : P.cellsOf e = ls.length) (hpos : 0 < ls.length)
    (hrow : ∀ cs, cs.length = ls.length → (∀ (i : Nat) (v : Value) (u : TypeId), cs[i]? = some v → ls[i]? = some u → Leaf enc P w base spare held u v) → ∃ x, cs = cells x ∧ φ x)
    {fuel : Nat} {v : Value} {x : DataW H × List MemPlace} (h : DataW.trod enc P w base spare held fuel t [v] = some x) :
    ∃ (a : Option Addr) (tc : Nat) (l : List α), v = .slice a l.length tc ∧ (l.length ≤ tc ∧ l.length ≤ maxLen) ∧ (∀ x ∈ l, φ x) ∧ (l ≠ [] → ∃ b off, a = some ⟨b, off, none⟩ ∧ b < w.heap.size ∧ ∀ i x, l[i]? = some x → ∀ j v, (cells x)[j]? = some v → w.cell? ⟨b, off + i * ls.length + j, none⟩ = some v) := by
  rcases Go.Deep.open_slice ht h with ⟨e, _⟩ | ⟨a', len, cap, m, n', D, Pl, e, _, hle, hcm, hm, _, hx⟩
  · exact ⟨none, 0, [], (List.cons.inj e).1, ⟨Nat.zero_le _, Nat.zero_le _⟩, fun x hx => by simp at hx, fun h => absurd rfl h⟩
  · have hlm : len ≤ m := by rw [hm]; split <;> omega
    rw [hce] at hx
    have key : ∀ i, i < len → ∃ y : α, φ y ∧ (cells y).length = ls.length ∧ ∀ j v, (cells y)[j]? = some v → w.cell? ((a'.add (i * ls.length)).add j) = some v := by
      intro i hi
      obtain ⟨cs', h1, h2⟩ := hx i (by omega)
      obtain ⟨_, hl, hc⟩ := World.cells?_some h1
      obtain ⟨h3, h4⟩ := hf _ _ _ h2
      obtain ⟨y, rfl, hy⟩ := hrow cs' h3 h4
      refine ⟨y, hy, h3, fun j v hv => ?_⟩
      have hj : j < ls.length := by have := (List.getElem?_eq_some_iff.1 hv).1; omega
      rw [hc j hj, hv]
    have build : ∀ k, k ≤ len → ∃ l : List α, l.length = k ∧ ∀ i x, l[i]? = some x → φ x ∧ (cells x).length = ls.length ∧ ∀ j v, (cells x)[j]? = some v → w.cell? ((a'.add (i * ls.length)).add j) = some v := by
      intro k
      induction k with
      | zero => intro _; exact ⟨[], rfl, fun i x hx => by simp at hx⟩
      | succ k ih =>
        intro hk
        obtain ⟨l, hl, hall⟩ := ih (by omega)
        obtain ⟨y, hy⟩ := key k (by omega)
        refine ⟨l ++ [y], by simp [hl], fun i x hx => ?_⟩
        by_cases hi : i < l.length
        · rw [List.getElem?_append_left hi] at hx; exact hall i x hx
        · rw [List.getElem?_append_right (by omega)] at hx
          have hi2 : i = k := by
            have := (List.getElem?_eq_some_iff.1 hx).1
            simp at this; omega
          subst hi2
          rw [hl, Nat.sub_self] at hx
          obtain rfl := Option.some.inj hx
          exact hy
    obtain ⟨l, hl, hall⟩ := build len (Nat.le_refl _)
    subst hl
    refine ⟨some a', cap, l, (List.cons.inj e).1, ⟨by omega, by omega⟩, fun x hx => ?_, fun hne => ?_⟩
    · obtain ⟨i, hi⟩ := List.getElem?_of_mem hx
      exact (hall i x hi).1
    obtain ⟨ab, ao, asp⟩ := a'
    cases l with
    | nil => exact absurd rfl hne
    | cons y l =>
      obtain ⟨_, h5, h6⟩ := hall 0 y rfl
      have h0 := h6 0 _ (List.getElem?_eq_getElem (by omega))
      have hsp : asp = none := by simpa [Addr.add] using World.cell?_spot h0
      subst hsp
      refine ⟨ab, ao, rfl, by simpa [Addr.add] using cell_block h0, fun i x hx j v hv => ?_⟩
      have := (hall i x hx).2.2 j v hv
      rwa [Addr.add_mid, Addr.add_mid] at this
end
set_option maxRecDepth 100000 in
theorem open_tris {H : Type} {enc : TypeId × Value → H} {w : World} {base base0 : Nat} {spare : Nat → Bool} {held : Bool} {v : Value} {d : DataW H} {ps : List MemPlace} (hval : Value.okWide Tryz.prog w .any base0 91 v) (h : DataW.Trod enc Tryz.prog w base spare held 91 v d ps) :
    ∃ (a : Option Addr) (tc : Nat) (l : List T8), v = .slice a l.length tc ∧ l.length ≤ tc ∧ RwIn triC 3 (fun b => b < w.heap.size) w a l ∧ ∀ x ∈ l, x.1 < 256 ∧ x.2.1 < 256 ∧ x.2.2 < 256 := by
  obtain ⟨a0, n0, c0, rfl⟩ := okWide_slice Tryz.underlying91 hval
  obtain ⟨fuel, hf⟩ := h
  obtain ⟨a, tc, l, e, h1, h2, h3⟩ := open_rowsG (α := T8) (ls := List.replicate 3 5) triC (fun x => x.1 < 256 ∧ x.2.1 < 256 ∧ x.2.2 < 256) Tryz.underlying91 (arr_flat Tryz.underlying92 (by kernel_rfl) (by kernel_rfl)) (by kernel_rfl) (by decide) (fun cs hl hc => by
    match cs, hl, hc with
    | [c0, c1, c2], _, h3 =>
    obtain ⟨n0, rfl, w0⟩ := (h3 0 c0 _ rfl rfl).int Tryz.underlying5
    obtain ⟨n1, rfl, w1⟩ := (h3 1 c1 _ rfl rfl).int Tryz.underlying5
    obtain ⟨n2, rfl, w2⟩ := (h3 2 c2 _ rfl rfl).int Tryz.underlying5
    have b0 := wf_byte w0; have b1 := wf_byte w1; have b2 := wf_byte w2
    refine ⟨(n0.toNat, n1.toNat, n2.toNat), ?_, by dsimp only; omega⟩
    show [Value.int .u8 n0, .int .u8 n1, .int .u8 n2] = [Value.int .u8 ((n0.toNat : Nat) : Int), .int .u8 ((n1.toNat : Nat) : Int), .int .u8 ((n2.toNat : Nat) : Int)]
    rw [Int.toNat_of_nonneg b0.1, Int.toNat_of_nonneg b1.1, Int.toNat_of_nonneg b2.1]) hf
  refine ⟨a, tc, l, e, h1.1, ⟨h3⟩, h2⟩
theorem own_pair : ownKnob Tryz.prog.godebug = none := by kernel_rfl
theorem laidOut_pair : laidOutB Tryz.prog = true := by kernel_rfl
set_option maxRecDepth 100000 in
theorem pair_lifted (os : Os) (started : os.Started) (H : Type) (enc : TypeId × Value → H) :
    ReturnsInHanded {} Tryz.checked os 9 .any (Rows.replicaPairSpec.pre6 enc Tryz.prog Tryz.f9 Rows.replicaPairRow.domain false) (Rows.replicaPairSpec.post enc Tryz.prog Tryz.f9 false true false false) := by
  refine law_returns (C := Tryz.checked) own_pair started (by kernel_rfl) Tryz.func9
    (ChangeSpec.witness6 (enc := enc) (C := Tryz.checked) false ⟨#[], #[.agg #[.int .i64 0, .int .i64 0, .int .i64 0, .slice none 0 0, .int .i64 0, .int .i64 0, .int .i64 0, .int .i64 0, .int .i64 0, .int .i64 0, .int .i64 0, .int .i64 0], .slice none 0 0], []⟩ 8 (by kernel_rfl) (by kernel_rfl) (by kernel_rfl) (by kernel_rfl))
    laidOut_pair (by rw [Tryz.params9]; simp; exact ⟨⟨by kernel_rfl, of_decide_eq_true (by kernel_rfl)⟩, by kernel_rfl, of_decide_eq_true (by kernel_rfl)⟩) rfl rfl Tryz.underlying4
    (fun ds h => by
      rw [Tryz.params9] at h
      match ds, h with
      | [d1, d2], _ => rfl) ?_
  intro W base args ds ps hval hA _ _
  rw [Tryz.params9] at hA hval
  obtain ⟨v0, vs0, d0, ds0, p0, q0, hargs, rfl, rfl, h0, r0⟩ := trodAll_cons hA
  obtain ⟨v1, vs1, d1, ds1, p1, q1, rfl, rfl, rfl, h1, r1⟩ := trodAll_cons r0
  obtain ⟨rfl, rfl, rfl⟩ := trodAll_nil r1
  obtain rfl : args = #[v0, v1] := by cases args; simp_all
  obtain ⟨c, ca, cc, rfl, hcc, hq⟩ := open_conf (hval 0 24 v0 rfl rfl) h0
  obtain ⟨la, lc, l, rfl, hll, hl, hlb⟩ := open_tris (hval 1 91 v1 rfl rfl) h1
  have T := pair_spec (fun b => b < W.heap.size) W c ca cc hq la lc l hl hlb
  exact ⟨T.callable, fun hl hs => Calls.mono (T.calls hl hs) fun e W' ⟨v, L', h1, h2, h3, h4⟩ => ⟨v, L', h1, h2.1, h3, h4⟩⟩

theorem pair_holds : Rows.ReplicaPairSaid :=
  OpenClaim.holds_of_wide 9 Tryz.f9 rfl rfl rfl rfl rfl rfl rfl ⟨rfl, rfl, rfl, rfl, rfl⟩ rfl rfl rfl rfl rfl (by kernel_rfl) Tryz.func9 (by kernel_rfl)
    (of_decide_eq_true (by kernel_rfl)) (by unfold Func.isWrapper; first | (rw [if_pos (by decide +kernel)]; kernel_rfl) | (rw [if_neg (by decide +kernel)]; exact ⟨rfl, rfl⟩))
    (fun os started H enc _ => pair_lifted os started H enc)
#print axioms pair_holds
end Go.Proofs.YtbbnmgakmcppdaaGreat.Rep
