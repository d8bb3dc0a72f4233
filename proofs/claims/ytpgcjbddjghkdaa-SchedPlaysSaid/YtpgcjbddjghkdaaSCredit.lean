/- SchedCredit's plain law: what a class may take in its first turn. No program is in sight. No condition. -/
import Derived.Test.YtpgcjbddjghkdaaSchedP
import Derived.Test.YtpgcjbddjghkdaaSLaw
namespace Go.Proofs.Ytpgcjbddjghkdaa.Sched
open Go Go.Proofs.Ytpgcjbddjghkdaa.Vg Go.Proofs.Ytpgcjbddjghkdaa.Api Go.Proofs.Ytpgcjbddjghkdaa.SLaw
set_option linter.unusedSimpArgs false
set_option linter.unusedVariables false

/-- What holds through Pop's steps. -/
theorem popF_ind (I : SchM → Prop) (R : FrameM → SchM → Prop)
    (hE : ∀ S c, S.Wf → I S → S.cls[S.turn]? = some c → c.q = [] → I ⟨S.cls.set S.turn c.c0, S.cap, (S.turn + 1) % S.cls.length, true⟩)
    (hL : ∀ S c g q, S.Wf → I S → S.cls[S.turn]? = some c → c.q = g :: q → (c.c1 S.fresh).credit < opCost g.op → I ⟨S.cls.set S.turn (c.c1 S.fresh), S.cap, (S.turn + 1) % S.cls.length, true⟩)
    (hP : ∀ S c g q, S.Wf → I S → S.cls[S.turn]? = some c → c.q = g :: q → ¬ (c.c1 S.fresh).credit < opCost g.op → R g (if q = [] then ⟨S.cls.set S.turn (c.c2 S.fresh g q), S.cap, (S.turn + 1) % S.cls.length, true⟩ else ⟨S.cls.set S.turn (c.c2 S.fresh g q), S.cap, S.turn, false⟩)) :
    ∀ {N : Nat} {S S1 : SchM} {f : FrameM}, S.Wf → I S → S.popF N = some (f, S1) → R f S1
  | 0, S, S1, f, _, _, h => by simp [SchM.popF] at h
  | N + 1, S, S1, f, hw, hi, h => by
    obtain ⟨c, hc⟩ : ∃ c, S.cls[S.turn]? = some c := ⟨_, List.getElem?_eq_getElem hw.turn⟩
    have hcw := hw.cls c (List.mem_of_getElem? hc)
    have hql := hw.qs c (List.mem_of_getElem? hc)
    rw [popF_succ hc] at h
    cases hq : c.q with
    | nil =>
      simp only [hq] at h
      exact popF_ind I R hE hL hP (hw.turned (c' := c.c0) hcw.empty hql (by show (0 : Int) ≤ 95; omega)) (hE S c hw hi hc hq) h
    | cons g q' =>
      simp only [hq] at h
      have hcost := opCost_le g.op
      by_cases hlt : (c.c1 S.fresh).credit < opCost g.op
      · rw [if_pos hlt] at h
        exact popF_ind I R hE hL hP (hw.turned (c' := c.c1 S.fresh) (hw.c1 hc) hql (by omega)) (hL S c g q' hw hi hc hq hlt) h
      · rw [if_neg hlt] at h
        have := hP S c g q' hw hi hc hq hlt
        simp only [Option.some.injEq, Prod.mk.injEq] at h
        obtain ⟨rfl, rfl⟩ := h
        exact this

/-- All that wait are whole ones of their class. -/
def Whole (S : SchM) : Prop := ∀ (k : Nat) (q : List FrameM), S.qs[k]? = some q → ∀ f ∈ q, f.cls = k ∧ opCost f.op = 96
theorem Whole.pop {S S1 : SchM} {f : FrameM} (h : Whole S) (hw : S.Wf) (hp : S.popM = some (f, S1)) : Whole S1 := by
  obtain ⟨k, q, h1, h2, h3, h4⟩ := popM_some hw hp
  intro j x hx g hg
  rw [h2] at hx
  by_cases hjk : k = j
  · subst hjk
    rw [List.getElem?_set_self (List.getElem?_eq_some_iff.1 h1).1] at hx
    obtain rfl := Option.some.inj hx
    exact h k _ h1 g (List.mem_cons_of_mem _ hg)
  · rw [List.getElem?_set_ne hjk] at hx
    exact h j x hx g hg
theorem whole_cost (k : Int) (i : Int) : opCost (wholeM k i).op = 96 ∧ opCheck (wholeM k i).op = 0 := by
  have : opCost (⟨2, key16, zeros 64, 0⟩ : OpM) = 96 ∧ opCheck (⟨2, key16, zeros 64, 0⟩ : OpM) = 0 := by decide +kernel
  exact this
theorem Whole.push {S : SchM} (h : Whole S) {k : Nat} {i : Int} : Whole (S.pushM (wholeM k i)).2 := by
  cases hq : S.qs[k]? with
  | none =>
    have : S.at_ (k : Int) = none := by
      rw [SchM.at_nat]
      simp only [SchM.qs, List.getElem?_map, Option.map_eq_none_iff] at hq
      exact hq
    have e : S.pushM (wholeM k i) = (2, S) := by
      unfold SchM.pushM
      rw [show (wholeM k i).cls = (k : Int) from rfl, this]
    rw [e]; exact h
  | some q =>
    obtain ⟨_, h2, _⟩ := push_qs (f := wholeM k i) rfl hq (whole_cost k i).2
    intro j x hx g hg
    rw [h2] at hx
    by_cases hl : q.length < S.cap
    · rw [if_pos hl] at hx
      by_cases hjk : k = j
      · subst hjk
        rw [List.getElem?_set_self (List.getElem?_eq_some_iff.1 hq).1] at hx
        obtain rfl := Option.some.inj hx
        rcases List.mem_append.1 hg with hg | hg
        · exact h k q hq g hg
        · obtain rfl := List.mem_singleton.1 hg
          exact ⟨rfl, (whole_cost k i).1⟩
      · rw [List.getElem?_set_ne hjk] at hx
        exact h j x hx g hg
    · rw [if_neg hl] at hx
      exact h j x hx g hg

/-! ### Two classes -/
structure Two (q1 : Int) (S : SchM) (c0 c1 : ClsM) : Prop where
  wf : S.Wf
  cls : S.cls = [c0, c1]
  whole : Whole S
  quantum : c1.quantum = q1
  served : 0 ≤ c1.served

/-- Before the other class comes: it has nothing. -/
structure Before (q1 : Int) (S : SchM) : Prop where
  wf : S.Wf
  cap : S.cap = 16
  fresh : S.fresh = true
  whole : Whole S
  cls : ∃ c0 c1, S.cls = [c0, c1] ∧ c0.q = [] ∧ c1.q = [] ∧ c1.quantum = q1 ∧ c1.credit = 0 ∧ c1.served = 0

theorem Before.turn {q1 : Int} {S : SchM} (h : Before q1 S) (i : Int) : ∃ f S1, ((S.pushM (wholeM 0 i)).2).popM = some (f, S1) ∧ Before q1 S1 := by
  obtain ⟨c0, c1, hcls, h0, h1, hq1, hcr, hsv⟩ := h.cls
  have hc0 : S.cls[0]? = some c0 := by rw [hcls]; rfl
  have hp := push_at (S := S) (f := wholeM 0 i) (k := 0) rfl hc0 (whole_cost 0 i).2
  rw [h0, if_pos (by rw [h.cap]; show 0 < 16; omega)] at hp
  have hw2 := push_wf h.wf (wholeM 0 i)
  have hwh2 : Whole (S.pushM (wholeM (0 : Nat) i)).2 := h.whole.push
  rw [show S.pushM (wholeM (0 : Nat) i) = S.pushM (wholeM 0 i) from rfl] at hwh2
  rw [hp] at hw2 hwh2 ⊢
  generalize hT : S.setC 0 { c0 with q := [] ++ [wholeM 0 i] } = T at hw2 hwh2 ⊢
  have hTc : T.cls = [{ c0 with q := [wholeM 0 i] }, c1] := by rw [← hT]; simp [SchM.setC, hcls]
  have hTf : T.fresh = true := by rw [← hT]; exact h.fresh
  have hTcap : T.cap = 16 := by rw [← hT]; exact h.cap
  have hidle : T.idle = false := by unfold SchM.idle; rw [hTc]; rfl
  obtain ⟨f, S1, hpop⟩ := popF_some hw2 hidle
  have hpm : T.popM = some (f, S1) := by unfold SchM.popM; rw [hidle]; exact hpop
  refine ⟨f, S1, hpm, ?_⟩
  have hwh3 := hwh2.pop hw2 hpm
  obtain ⟨k, q, g1, g2, g3, g4⟩ := popM_some hw2 hpm
  have key := popF_ind (fun U => U.fresh = true ∧ ∃ d0 d1, U.cls = [d0, d1] ∧ d0.q = [wholeM 0 i] ∧ d1.q = [] ∧ d1.quantum = q1 ∧ d1.credit = 0 ∧ d1.served = 0)
    (fun _ U => U.fresh = true ∧ ∃ d0 d1, U.cls = [d0, d1] ∧ d0.q = [] ∧ d1.q = [] ∧ d1.quantum = q1 ∧ d1.credit = 0 ∧ d1.served = 0)
    (fun U c hUw ⟨hf, d0, d1, e, e0, e1, e2, e3, e4⟩ hc hq => by
      refine ⟨rfl, ?_⟩
      have ht := hUw.turn
      rw [e] at hc ht ⊢
      match hU : U.turn, hc, ht with
      | 0, hc, _ => obtain rfl : d0 = c := Option.some.inj hc; rw [e0] at hq; cases hq
      | 1, hc, _ => obtain rfl : d1 = c := Option.some.inj hc; exact ⟨d0, d1.c0, rfl, e0, e1, e2, rfl, e4⟩
      | n + 2, _, ht => exact absurd ht (Nat.not_lt.2 (Nat.le_add_left 2 n)))
    (fun U c g q hUw ⟨hf, d0, d1, e, e0, e1, e2, e3, e4⟩ hc hq hlt => by
      have hb := opCost_le g.op
      have hcw := hUw.cls c (List.mem_of_getElem? hc)
      have := hcw.q0; have := hcw.c0
      have : ¬ (c.c1 U.fresh).credit < opCost g.op := by
        show ¬ (if U.fresh then c.credit + c.quantum else c.credit) < _
        rw [hf, if_pos rfl]; omega
      exact absurd hlt this)
    (fun U c g q hUw ⟨hf, d0, d1, e, e0, e1, e2, e3, e4⟩ hc hq hlt => by
      have ht := hUw.turn
      rw [e] at hc ht ⊢
      match hU : U.turn, hc, ht with
      | 0, hc, _ =>
        obtain rfl : d0 = c := Option.some.inj hc
        rw [e0] at hq
        simp only [List.cons.injEq] at hq
        obtain ⟨rfl, rfl⟩ := hq
        exact ⟨rfl, d0.c2 U.fresh (wholeM 0 i) [], d1, rfl, rfl, e1, e2, e3, e4⟩
      | 1, hc, _ => obtain rfl : d1 = c := Option.some.inj hc; rw [e1] at hq; cases hq
      | n + 2, _, ht => exact absurd ht (Nat.not_lt.2 (Nat.le_add_left 2 n)))
    hw2 ⟨hTf, _, _, hTc, rfl, h1, hq1, hcr, hsv⟩ hpop
  exact ⟨g4, by rw [g3]; exact hTcap, key.1, hwh3, key.2⟩

theorem push_cases (S : SchM) (f : FrameM) : (S.pushM f).2 = S ∨ ∃ k c q, S.cls[k]? = some c ∧ (S.pushM f).2 = S.setC k { c with q := q } := by
  unfold SchM.pushM
  cases ha : S.at_ f.cls with
  | none => exact .inl rfl
  | some c =>
    dsimp only
    split
    · exact .inl rfl
    · split
      · unfold SchM.at_ at ha
        split at ha
        · exact .inr ⟨_, c, _, ha, rfl⟩
        · cases ha
      · exact .inl rfl

structure Mid (q1 : Int) (S : SchM) : Prop where
  wf : S.Wf
  fresh : S.fresh = true
  whole : Whole S
  cls : ∃ c0 c1, S.cls = [c0, c1] ∧ c1.quantum = q1 ∧ c1.credit = 0 ∧ c1.served = 0
theorem Before.mid {q1 : Int} {S : SchM} (h : Before q1 S) : Mid q1 S := by
  obtain ⟨c0, c1, h1, _, _, h2, h3, h4⟩ := h.cls
  exact ⟨h.wf, h.fresh, h.whole, c0, c1, h1, h2, h3, h4⟩
theorem Mid.push {q1 : Int} {S : SchM} (h : Mid q1 S) (k : Nat) (i : Int) : Mid q1 (S.pushM (wholeM k i)).2 := by
  have hw := push_wf h.wf (wholeM k i)
  have hh := h.whole.push (k := k) (i := i)
  obtain ⟨c0, c1, h1, h2, h3, h4⟩ := h.cls
  rcases push_cases S (wholeM k i) with e | ⟨j, c, q, hc, e⟩
  · rw [e] at hw hh ⊢; exact h
  · rw [e] at hw hh ⊢
    refine ⟨hw, h.fresh, hh, ?_⟩
    have hj := (List.getElem?_eq_some_iff.1 hc).1
    rw [h1] at hc hj
    simp only [SchM.setC, h1]
    match j, hc, hj with
    | 0, hc, _ => exact ⟨_, c1, rfl, h2, h3, h4⟩
    | 1, hc, _ => obtain rfl : c1 = c := Option.some.inj hc; exact ⟨c0, _, rfl, h2, h3, h4⟩
    | n + 2, _, hj => exact absurd hj (Nat.not_lt.2 (Nat.le_add_left 2 n))

/-- While the other class has its first turn. -/
def Abc (q1 : Int) (t : Nat) (fr : Bool) (c1 : ClsM) : Prop :=
  c1.quantum = q1 ∧ (c1.credit = 0 ∧ c1.served = 0 ∧ (t = 1 → fr = true) ∨ t = 1 ∧ fr = false ∧ c1.served + c1.credit = q1 ∧ 96 ≤ c1.served ∨ t = 0 ∧ fr = true ∧ 96 ≤ c1.served ∧ c1.served ≤ q1)
structure RaceM (q1 : Int) (S : SchM) : Prop where
  wf : S.Wf
  whole : Whole S
  cls : ∃ c0 c1, S.cls = [c0, c1] ∧ Abc q1 S.turn S.fresh c1
theorem Mid.race {q1 : Int} {S : SchM} (h : Mid q1 S) : RaceM q1 S := by
  obtain ⟨c0, c1, h1, h2, h3, h4⟩ := h.cls
  exact ⟨h.wf, h.whole, c0, c1, h1, h2, .inl ⟨h3, h4, fun _ => h.fresh⟩⟩

def Ok1 (k : Int) (q : List FrameM) : Prop := ∀ f ∈ q, f.cls = k ∧ opCost f.op = 96
def RI (q1 : Int) (U : SchM) : Prop := ∃ d0 d1, U.cls = [d0, d1] ∧ d0.q ≠ [] ∧ d1.q ≠ [] ∧ Ok1 0 d0.q ∧ Ok1 1 d1.q ∧ Abc q1 U.turn U.fresh d1
def RR (q1 : Int) (f : FrameM) (U : SchM) : Prop := ∃ d0 d1, U.cls = [d0, d1] ∧ (f.cls = 1 ∧ Abc q1 U.turn U.fresh d1 ∨ f.cls = 0 ∧ (Abc q1 U.turn U.fresh d1 ∧ d1.served = 0 ∨ 0 < d1.served ∧ d1.served ≤ q1))

theorem race_pop {q1 : Int} (hq0 : 96 ≤ q1) (hq1 : q1 ≤ 1000) {N : Nat} {S S1 : SchM} {f : FrameM} (hw : S.Wf) (hi : RI q1 S) (hp : S.popF N = some (f, S1)) : RR q1 f S1 := by
  refine popF_ind (RI q1) (RR q1) ?_ ?_ ?_ hw hi hp
  · rintro U c hUw ⟨d0, d1, e, e0, e1, _⟩ hc hq
    have ht := hUw.turn
    rw [e] at hc ht
    match hU : U.turn, hc, ht with
    | 0, hc, _ => obtain rfl : d0 = c := Option.some.inj hc; exact absurd hq e0
    | 1, hc, _ => obtain rfl : d1 = c := Option.some.inj hc; exact absurd hq e1
    | n + 2, _, ht => exact absurd ht (Nat.not_lt.2 (Nat.le_add_left 2 n))
  · rintro U c g q hUw ⟨d0, d1, e, e0, e1, o0, o1, hA⟩ hc hq hlt
    have hcw := hUw.cls c (List.mem_of_getElem? hc)
    have h96 := hcw.q0; have hcr := hcw.c0
    have hb := opCost_le g.op
    have hfr : U.fresh = false := by
      cases hf : U.fresh with
      | false => rfl
      | true =>
        have : (c.c1 U.fresh).credit = c.credit + c.quantum := by show (if U.fresh then c.credit + c.quantum else c.credit) = _; rw [hf, if_pos rfl]
        omega
    have hc1 : c.c1 U.fresh = c := by rw [hfr]; rfl
    rw [hc1] at hlt ⊢
    have ht := hUw.turn
    rw [e] at hc ht ⊢
    obtain ⟨hA1, hA2⟩ := hA
    match hU : U.turn, hc, ht with
    | 0, hc, _ =>
      obtain rfl : d0 = c := Option.some.inj hc
      refine ⟨d0, d1, rfl, e0, e1, o0, o1, hA1, ?_⟩
      rcases hA2 with ⟨h1, h2, _⟩ | ⟨h1, _⟩ | ⟨_, h2, _⟩
      · exact .inl ⟨h1, h2, fun _ => rfl⟩
      · rw [hU] at h1; cases h1
      · rw [hfr] at h2; cases h2
    | 1, hc, _ =>
      obtain rfl : d1 = c := Option.some.inj hc
      refine ⟨d0, d1, rfl, e0, e1, o0, o1, hA1, ?_⟩
      rcases hA2 with ⟨_, _, h3⟩ | ⟨_, _, h3, h4⟩ | ⟨h1, _⟩
      · have := h3 hU; rw [hfr] at this; cases this
      · exact .inr (.inr ⟨by simp, rfl, h4, by omega⟩)
      · rw [hU] at h1; cases h1
    | n + 2, _, ht => exact absurd ht (Nat.not_lt.2 (Nat.le_add_left 2 n))
  · rintro U c g q hUw ⟨d0, d1, e, e0, e1, o0, o1, hA⟩ hc hq hlt
    have hcw := hUw.cls c (List.mem_of_getElem? hc)
    have h96 := hcw.q0; have hcr := hcw.c0
    have ht := hUw.turn
    rw [e] at hc ht ⊢
    obtain ⟨hA1, hA2⟩ := hA
    match hU : U.turn, hc, ht with
    | 0, hc, _ =>
      obtain rfl : d0 = c := Option.some.inj hc
      have hg := o0 g (by rw [hq]; simp)
      by_cases hz : q = []
      · rw [if_pos hz]
        refine ⟨_, d1, rfl, .inr ⟨hg.1, ?_⟩⟩
        rcases hA2 with ⟨h1, h2, _⟩ | ⟨h1, _⟩ | ⟨_, _, h2, h3⟩
        · exact .inl ⟨⟨hA1, .inl ⟨h1, h2, fun _ => rfl⟩⟩, h2⟩
        · rw [hU] at h1; cases h1
        · exact .inr ⟨by omega, h3⟩
      · rw [if_neg hz]
        refine ⟨_, d1, rfl, .inr ⟨hg.1, ?_⟩⟩
        rcases hA2 with ⟨h1, h2, _⟩ | ⟨h1, _⟩ | ⟨_, _, h2, h3⟩
        · exact .inl ⟨⟨hA1, .inl ⟨h1, h2, fun h => by cases h⟩⟩, h2⟩
        · rw [hU] at h1; cases h1
        · exact .inr ⟨by omega, h3⟩
    | 1, hc, _ =>
      obtain rfl : d1 = c := Option.some.inj hc
      have hg := o1 g (by rw [hq]; simp)
      have hcost := hg.2
      rw [hcost] at hlt
      have hcr1 : (d1.c1 U.fresh).credit = if U.fresh then d1.credit + d1.quantum else d1.credit := rfl
      have hsv : (d1.c2 U.fresh g q).served = SchM.served2 (d1.served + 96) := by show SchM.served2 (d1.served + opCost g.op) = _; rw [hcost]
      have hcd : (d1.c2 U.fresh g q).credit = if q = [] then 0 else (d1.c1 U.fresh).credit - 96 := by show (if q = [] then 0 else (d1.c1 U.fresh).credit - opCost g.op) = _; rw [hcost]
      have hnew : 96 ≤ d1.served + 96 ∧ d1.served + 96 + ((d1.c1 U.fresh).credit - 96) = q1 := by
        rcases hA2 with ⟨h1, h2, h3⟩ | ⟨_, h2, h3, h4⟩ | ⟨h1, _⟩
        · have := h3 hU
          rw [hcr1, this, if_pos rfl]
          omega
        · rw [hcr1, h2, if_neg (by simp)]
          omega
        · rw [hU] at h1; cases h1
      have hsv2 : (d1.c2 U.fresh g q).served = d1.served + 96 := by
        rw [hsv]; unfold SchM.served2; rw [if_neg]; omega
      by_cases hz : q = []
      · rw [if_pos hz]
        refine ⟨d0, _, rfl, .inl ⟨hg.1, hA1, .inr (.inr ⟨by simp, rfl, ?_, ?_⟩)⟩⟩
        · rw [hsv2]; omega
        · rw [hsv2]; omega
      · rw [if_neg hz]
        rw [if_neg hz] at hcd
        refine ⟨d0, _, rfl, .inl ⟨hg.1, hA1, .inr (.inl ⟨rfl, rfl, ?_, ?_⟩)⟩⟩
        · rw [hsv2, hcd]; omega
        · rw [hsv2]; omega
    | n + 2, _, ht => exact absurd ht (Nat.not_lt.2 (Nat.le_add_left 2 n))

/-- One more is taken out, while both have any. -/
theorem RaceM.pop {q1 : Int} (hq0 : 96 ≤ q1) (hq1 : q1 ≤ 1000) {S : SchM} (h : RaceM q1 S) (h0 : 0 < S.lenM 0) (h1 : 0 < S.lenM 1) :
    ∃ f S1, S.popM = some (f, S1) ∧ S1.Wf ∧ (f.cls = 1 ∧ RaceM q1 S1 ∨ f.cls = 0 ∧ (RaceM q1 S1 ∧ S1.servedM 1 = 0 ∨ 0 < S1.servedM 1 ∧ S1.servedM 1 ≤ q1)) := by
  obtain ⟨c0, c1, hcls, hA⟩ := h.cls
  have e0 : S.lenM 0 = c0.q.length := by unfold SchM.lenM SchM.at_; rw [hcls]; rfl
  have e1 : S.lenM 1 = c1.q.length := by unfold SchM.lenM SchM.at_; rw [hcls]; rfl
  have n0 : c0.q ≠ [] := fun e => by rw [e0, e] at h0; simp at h0
  have n1 : c1.q ≠ [] := fun e => by rw [e1, e] at h1; simp at h1
  have hidle : S.idle = false := by
    unfold SchM.idle; rw [hcls, List.all_eq_false]
    exact ⟨c0, by simp, by cases hq : c0.q with | nil => exact absurd hq n0 | cons _ _ => simp⟩
  obtain ⟨f, S1, hp⟩ := popF_some h.wf hidle
  have hpm : S.popM = some (f, S1) := by unfold SchM.popM; rw [hidle]; exact hp
  have w0 : S.qs[0]? = some c0.q := by unfold SchM.qs; rw [hcls]; rfl
  have w1 : S.qs[1]? = some c1.q := by unfold SchM.qs; rw [hcls]; rfl
  have hr := race_pop hq0 hq1 h.wf ⟨c0, c1, hcls, n0, n1, h.whole 0 _ w0, h.whole 1 _ w1, hA⟩ hp
  obtain ⟨k, q, g1, g2, g3, g4⟩ := popM_some h.wf hpm
  have hwh := h.whole.pop h.wf hpm
  obtain ⟨d0, d1, hd, hx⟩ := hr
  have es : S1.servedM 1 = d1.served := by unfold SchM.servedM SchM.at_; rw [hd]; rfl
  refine ⟨f, S1, hpm, g4, ?_⟩
  rw [es]
  rcases hx with ⟨hf, hB⟩ | ⟨hf, ⟨hB, hz⟩ | hz⟩
  · exact .inl ⟨hf, g4, hwh, d0, d1, hd, hB⟩
  · exact .inr ⟨hf, .inl ⟨⟨g4, hwh, d0, d1, hd, hB⟩, hz⟩⟩
  · exact .inr ⟨hf, .inr hz⟩

theorem Before.start (q0 q1 : Int) (h0 : 96 ≤ q0) (h1 : q0 ≤ 65536) (h2 : 96 ≤ q1) (h3 : q1 ≤ 65536) : Before q1 (SchM.new [q0, q1] 16) ∧ newOk [q0, q1] 16 = true := by
  have hok : newOk [q0, q1] 16 = true := by simp [newOk, quantumOk]; omega
  refine ⟨⟨SchM.new_wf hok, rfl, rfl, ?_, clsNew q0, clsNew q1, rfl, rfl, rfl, rfl, rfl, rfl⟩, hok⟩
  intro k q hq f hf
  match k, hq with
  | 0, hq => obtain rfl : [] = q := Option.some.inj hq; cases hf
  | 1, hq => obtain rfl : [] = q := Option.some.inj hq; cases hf
  | n + 2, hq => cases hq
end Go.Proofs.Ytpgcjbddjghkdaa.Sched
