/- SchedAll's plain law: how long a class may be passed over. No program is in sight. No condition. -/
import Derived.Test.YtpgcjbddjghkdaaSWorks
namespace Go.Proofs.Ytpgcjbddjghkdaa.Sched
open Go Go.Proofs.Ytpgcjbddjghkdaa.Vg Go.Proofs.Ytpgcjbddjghkdaa.Api Go.Proofs.Ytpgcjbddjghkdaa.SLaw
set_option linter.unusedSimpArgs false
set_option linter.unusedVariables false

def full (q : Int) : Int := (95 + q) / 17
/-- t has the turn, n is next, l is last; a: how often each was passed over. -/
structure Bd (Q a : Nat → Int) (t n l : Nat) (fr : Bool) (ct cn cl : ClsM) : Prop where
  qt : ct.quantum = Q t
  qn : cn.quantum = Q n
  ql : cl.quantum = Q l
  bt : ct.q ≠ [] → a t + (if fr then 0 else full (Q n) + full (Q l)) ≤ full (Q n) + full (Q l)
  bn : cn.q ≠ [] → a n + (if fr then ct.credit + ct.quantum else ct.credit) / 17 ≤ full (Q t) + full (Q l)
  bl : cl.q ≠ [] → a l + (if fr then ct.credit + ct.quantum else ct.credit) / 17 + full (Q n) ≤ full (Q t) + full (Q n)

/-- The turn goes on. -/
theorem Bd.pass {Q a : Nat → Int} {t n l : Nat} {fr : Bool} {ct cn cl ct' : ClsM} (h : Bd Q a t n l fr ct cn cl) (hq : ct'.q = ct.q) (hqu : ct'.quantum = ct.quantum)
    (h0 : 0 ≤ ct.credit) (hq0 : 0 ≤ ct.quantum) (hn : cn.credit ≤ 95) (hn0 : 0 ≤ cn.credit) (hnq : 0 ≤ cn.quantum) (hcase : ct.q = [] ∨ fr = false) : Bd Q a n l t true cn cl ct' := by
  have hfull : (cn.credit + cn.quantum) / 17 ≤ full (Q n) := by unfold full; rw [← h.qn]; omega
  have hcur : 0 ≤ (if fr then ct.credit + ct.quantum else ct.credit) / 17 := by split <;> omega
  refine ⟨h.qn, h.ql, by rw [hqu]; exact h.qt, fun hne => ?_, fun hne => ?_, fun hne => ?_⟩
  · have := h.bn hne
    rw [if_pos rfl]; omega
  · have := h.bl hne
    rw [if_pos rfl]; omega
  · rw [hq] at hne
    have hfr : fr = false := hcase.resolve_left hne
    have := h.bt hne
    rw [hfr] at this
    rw [if_neg (by simp)] at this
    rw [if_pos rfl]; omega

/-- One of the turn's class is taken out, and the turn stays. -/
theorem Bd.stay {Q a a' : Nat → Int} {t n l : Nat} {fr : Bool} {ct cn cl ct' : ClsM} {cost : Int} (h : Bd Q a t n l fr ct cn cl) (hqu : ct'.quantum = ct.quantum)
    (hcr : ct'.credit = (if fr then ct.credit + ct.quantum else ct.credit) - cost) (hc : 17 ≤ cost) (hle : cost ≤ (if fr then ct.credit + ct.quantum else ct.credit))
    (ht : a' t = 0) (hn : cn.q ≠ [] → a' n = a n + 1) (hl : cl.q ≠ [] → a' l = a l + 1) : Bd Q a' t n l false ct' cn cl := by
  refine ⟨by rw [hqu]; exact h.qt, h.qn, h.ql, fun _ => by rw [ht, if_neg (by simp)]; omega, fun hne => ?_, fun hne => ?_⟩
  · have := h.bn hne
    rw [hn hne, if_neg (by simp), hcr]
    generalize (if fr then ct.credit + ct.quantum else ct.credit) = x at *
    omega
  · have := h.bl hne
    rw [hl hne, if_neg (by simp), hcr]
    generalize (if fr then ct.credit + ct.quantum else ct.credit) = x at *
    omega
/-- .. and it was the last one: the turn goes on. -/
theorem Bd.last {Q a a' : Nat → Int} {t n l : Nat} {fr : Bool} {ct cn cl ct' : ClsM} {cost : Int} (h : Bd Q a t n l fr ct cn cl) (hqu : ct'.quantum = ct.quantum) (hq : ct'.q = [])
    (hc : 17 ≤ cost) (hle : cost ≤ (if fr then ct.credit + ct.quantum else ct.credit)) (hn5 : cn.credit ≤ 95) (hn0 : 0 ≤ cn.credit) (hnq : 0 ≤ cn.quantum)
    (hn : cn.q ≠ [] → a' n = a n + 1) (hl : cl.q ≠ [] → a' l = a l + 1) : Bd Q a' n l t true cn cl ct' := by
  have hfull : (cn.credit + cn.quantum) / 17 ≤ full (Q n) := by unfold full; rw [← h.qn]; omega
  refine ⟨h.qn, h.ql, by rw [hqu]; exact h.qt, fun hne => ?_, fun hne => ?_, fun hne => absurd hq hne⟩
  · have := h.bn hne
    rw [hn hne, if_pos rfl]
    generalize (if fr then ct.credit + ct.quantum else ct.credit) = x at *
    omega
  · have := h.bl hne
    rw [hl hne, if_pos rfl]
    generalize (if fr then ct.credit + ct.quantum else ct.credit) = x at *
    omega

def Bal (Q a : Nat → Int) (S : SchM) : Prop := ∃ c0 c1 c2, S.cls = [c0, c1, c2] ∧
  (S.turn = 0 ∧ Bd Q a 0 1 2 S.fresh c0 c1 c2 ∨ S.turn = 1 ∧ Bd Q a 1 2 0 S.fresh c1 c2 c0 ∨ S.turn = 2 ∧ Bd Q a 2 0 1 S.fresh c2 c0 c1)
/-- All that wait count for 17 at least, and are of their class. -/
def Fine (S : SchM) : Prop := ∀ (k : Nat) (q : List FrameM), S.qs[k]? = some q → ∀ f ∈ q, f.cls = k ∧ 17 ≤ opCost f.op

/-- How often each was passed over, behind one more that was taken out. -/
def Next (a a' : Nat → Int) (f : FrameM) (S1 : SchM) : Prop := ∀ (k : Nat) (q : List FrameM), S1.qs[k]? = some q → q ≠ [] → a' k = if f.cls = k then 0 else a k + 1

theorem bal_pop {Q a : Nat → Int} {N : Nat} {S S1 : SchM} {f : FrameM} (hw : S.Wf) (hf : Fine S) (hi : Bal Q a S) (hp : S.popF N = some (f, S1)) : ∀ a', Next a a' f S1 → Bal Q a' S1 := by
  refine popF_ind (fun U => Fine U ∧ Bal Q a U) (fun g U => ∀ a', Next a a' g U → Bal Q a' U) ?_ ?_ ?_ hw ⟨hf, hi⟩ hp
  · rintro U c hUw ⟨hF, c0, c1, c2, e, hB⟩ hc hq
    have hF' : Fine ⟨U.cls.set U.turn c.c0, U.cap, (U.turn + 1) % U.cls.length, true⟩ := by
      have := qs_same hc (c' := c.c0) rfl
      intro k q hk; exact hF k q (by rw [← hk]; exact congrArg (fun l : List (List FrameM) => l[k]?) this.symm)
    refine ⟨hF', ?_⟩
    have w0 := hUw.cls c0 (by rw [e]; simp); have w1 := hUw.cls c1 (by rw [e]; simp); have w2 := hUw.cls c2 (by rw [e]; simp)
    have l0 := hUw.low 0 c0 (by rw [e]; rfl); have l1 := hUw.low 1 c1 (by rw [e]; rfl); have l2 := hUw.low 2 c2 (by rw [e]; rfl)
    have a0 := w0.c0; have a1 := w1.c0; have a2 := w2.c0; have b0 := w0.q0; have b1 := w1.q0; have b2 := w2.q0
    rcases hB with ⟨ht, hB⟩ | ⟨ht, hB⟩ | ⟨ht, hB⟩
    · rw [ht, e] at hc; obtain rfl := Option.some.inj hc
      exact ⟨c0.c0, c1, c2, by rw [ht, e]; rfl, .inr (.inl ⟨by rw [ht, e]; simp, hB.pass rfl rfl a0 (by omega) (l1 (by omega)) a1 (by omega) (.inl hq)⟩)⟩
    · rw [ht, e] at hc; obtain rfl := Option.some.inj hc
      exact ⟨c0, c1.c0, c2, by rw [ht, e]; rfl, .inr (.inr ⟨by rw [ht, e]; simp, hB.pass rfl rfl a1 (by omega) (l2 (by omega)) a2 (by omega) (.inl hq)⟩)⟩
    · rw [ht, e] at hc; obtain rfl := Option.some.inj hc
      exact ⟨c0, c1, c2.c0, by rw [ht, e]; rfl, .inl ⟨by rw [ht, e]; simp, hB.pass rfl rfl a2 (by omega) (l0 (by omega)) a0 (by omega) (.inl hq)⟩⟩
  · rintro U c g q hUw ⟨hF, c0, c1, c2, e, hB⟩ hc hq hlt
    have hcw := hUw.cls c (List.mem_of_getElem? hc)
    have h96 := hcw.q0; have hcr := hcw.c0
    have hb := opCost_le g.op
    have hfr : U.fresh = false := by
      cases hf : U.fresh with
      | false => rfl
      | true =>
        have : (c.c1 U.fresh).credit = c.credit + c.quantum := by show (if U.fresh then c.credit + c.quantum else c.credit) = _; rw [hf, if_pos rfl]
        omega
    have hF' : Fine ⟨U.cls.set U.turn (c.c1 U.fresh), U.cap, (U.turn + 1) % U.cls.length, true⟩ := by
      have := qs_same hc (c' := c.c1 U.fresh) rfl
      intro k q hk; exact hF k q (by rw [← hk]; exact congrArg (fun l : List (List FrameM) => l[k]?) this.symm)
    refine ⟨hF', ?_⟩
    have w0 := hUw.cls c0 (by rw [e]; simp); have w1 := hUw.cls c1 (by rw [e]; simp); have w2 := hUw.cls c2 (by rw [e]; simp)
    have l0 := hUw.low 0 c0 (by rw [e]; rfl); have l1 := hUw.low 1 c1 (by rw [e]; rfl); have l2 := hUw.low 2 c2 (by rw [e]; rfl)
    have a0 := w0.c0; have a1 := w1.c0; have a2 := w2.c0; have b0 := w0.q0; have b1 := w1.q0; have b2 := w2.q0
    rcases hB with ⟨ht, hB⟩ | ⟨ht, hB⟩ | ⟨ht, hB⟩
    · rw [ht, e] at hc; obtain rfl := Option.some.inj hc
      exact ⟨c0.c1 U.fresh, c1, c2, by rw [ht, e]; rfl, .inr (.inl ⟨by rw [ht, e]; simp, hB.pass rfl rfl a0 (by omega) (l1 (by omega)) a1 (by omega) (.inr hfr)⟩)⟩
    · rw [ht, e] at hc; obtain rfl := Option.some.inj hc
      exact ⟨c0, c1.c1 U.fresh, c2, by rw [ht, e]; rfl, .inr (.inr ⟨by rw [ht, e]; simp, hB.pass rfl rfl a1 (by omega) (l2 (by omega)) a2 (by omega) (.inr hfr)⟩)⟩
    · rw [ht, e] at hc; obtain rfl := Option.some.inj hc
      exact ⟨c0, c1, c2.c1 U.fresh, by rw [ht, e]; rfl, .inl ⟨by rw [ht, e]; simp, hB.pass rfl rfl a2 (by omega) (l0 (by omega)) a0 (by omega) (.inr hfr)⟩⟩
  · rintro U c g q hUw ⟨hF, c0, c1, c2, e, hB⟩ hc hq hlt a' ha'
    have w0 := hUw.cls c0 (by rw [e]; simp); have w1 := hUw.cls c1 (by rw [e]; simp); have w2 := hUw.cls c2 (by rw [e]; simp)
    have l0 := hUw.low 0 c0 (by rw [e]; rfl); have l1 := hUw.low 1 c1 (by rw [e]; rfl); have l2 := hUw.low 2 c2 (by rw [e]; rfl)
    have a0 := w0.c0; have a1 := w1.c0; have a2 := w2.c0; have b0 := w0.q0; have b1 := w1.q0; have b2 := w2.q0
    obtain ⟨hg1, hg2⟩ := hF U.turn c.q (SchM.qs_at hc) g (by rw [hq]; simp)
    have hle : opCost g.op ≤ (if U.fresh then c.credit + c.quantum else c.credit) := by have h9 : (c.c1 U.fresh).credit = (if U.fresh then c.credit + c.quantum else c.credit) := rfl; omega
    have hcd : (c.c2 U.fresh g q).credit = if q = [] then 0 else (if U.fresh then c.credit + c.quantum else c.credit) - opCost g.op := rfl
    by_cases hz : q = []
    · rw [if_pos hz] at ha' ⊢
      have hq2 : (c.c2 U.fresh g q).q = [] := hz
      rcases hB with ⟨ht, hB⟩ | ⟨ht, hB⟩ | ⟨ht, hB⟩
      · rw [ht, e] at hc; obtain rfl := Option.some.inj hc
        have n1 : c1.q ≠ [] → a' 1 = a 1 + 1 := fun hne => by have := ha' 1 c1.q (by rw [ht, e]; rfl) hne; rw [hg1, ht] at this; simpa using this
        have n2 : c2.q ≠ [] → a' 2 = a 2 + 1 := fun hne => by have := ha' 2 c2.q (by rw [ht, e]; rfl) hne; rw [hg1, ht] at this; simpa using this
        exact ⟨c0.c2 U.fresh g q, c1, c2, by rw [ht, e]; rfl, .inr (.inl ⟨by rw [ht, e]; simp, hB.last rfl hq2 hg2 hle (l1 (by omega)) a1 (by omega) n1 n2⟩)⟩
      · rw [ht, e] at hc; obtain rfl := Option.some.inj hc
        have n2 : c2.q ≠ [] → a' 2 = a 2 + 1 := fun hne => by have := ha' 2 c2.q (by rw [ht, e]; rfl) hne; rw [hg1, ht] at this; simpa using this
        have n0 : c0.q ≠ [] → a' 0 = a 0 + 1 := fun hne => by have := ha' 0 c0.q (by rw [ht, e]; rfl) hne; rw [hg1, ht] at this; simpa using this
        exact ⟨c0, c1.c2 U.fresh g q, c2, by rw [ht, e]; rfl, .inr (.inr ⟨by rw [ht, e]; simp, hB.last rfl hq2 hg2 hle (l2 (by omega)) a2 (by omega) n2 n0⟩)⟩
      · rw [ht, e] at hc; obtain rfl := Option.some.inj hc
        have n0 : c0.q ≠ [] → a' 0 = a 0 + 1 := fun hne => by have := ha' 0 c0.q (by rw [ht, e]; rfl) hne; rw [hg1, ht] at this; simpa using this
        have n1 : c1.q ≠ [] → a' 1 = a 1 + 1 := fun hne => by have := ha' 1 c1.q (by rw [ht, e]; rfl) hne; rw [hg1, ht] at this; simpa using this
        exact ⟨c0, c1, c2.c2 U.fresh g q, by rw [ht, e]; rfl, .inl ⟨by rw [ht, e]; simp, hB.last rfl hq2 hg2 hle (l0 (by omega)) a0 (by omega) n0 n1⟩⟩
    · rw [if_neg hz] at ha' hcd ⊢
      rcases hB with ⟨ht, hB⟩ | ⟨ht, hB⟩ | ⟨ht, hB⟩
      · rw [ht, e] at hc; obtain rfl := Option.some.inj hc
        have n0 : a' 0 = 0 := by have := ha' 0 q (by rw [ht, e]; rfl) hz; rw [hg1, ht] at this; simpa using this
        have n1 : c1.q ≠ [] → a' 1 = a 1 + 1 := fun hne => by have := ha' 1 c1.q (by rw [ht, e]; rfl) hne; rw [hg1, ht] at this; simpa using this
        have n2 : c2.q ≠ [] → a' 2 = a 2 + 1 := fun hne => by have := ha' 2 c2.q (by rw [ht, e]; rfl) hne; rw [hg1, ht] at this; simpa using this
        exact ⟨c0.c2 U.fresh g q, c1, c2, by rw [ht, e]; rfl, .inl ⟨ht, hB.stay rfl hcd hg2 hle n0 n1 n2⟩⟩
      · rw [ht, e] at hc; obtain rfl := Option.some.inj hc
        have n1 : a' 1 = 0 := by have := ha' 1 q (by rw [ht, e]; rfl) hz; rw [hg1, ht] at this; simpa using this
        have n2 : c2.q ≠ [] → a' 2 = a 2 + 1 := fun hne => by have := ha' 2 c2.q (by rw [ht, e]; rfl) hne; rw [hg1, ht] at this; simpa using this
        have n0 : c0.q ≠ [] → a' 0 = a 0 + 1 := fun hne => by have := ha' 0 c0.q (by rw [ht, e]; rfl) hne; rw [hg1, ht] at this; simpa using this
        exact ⟨c0, c1.c2 U.fresh g q, c2, by rw [ht, e]; rfl, .inr (.inl ⟨ht, hB.stay rfl hcd hg2 hle n1 n2 n0⟩)⟩
      · rw [ht, e] at hc; obtain rfl := Option.some.inj hc
        have n2 : a' 2 = 0 := by have := ha' 2 q (by rw [ht, e]; rfl) hz; rw [hg1, ht] at this; simpa using this
        have n0 : c0.q ≠ [] → a' 0 = a 0 + 1 := fun hne => by have := ha' 0 c0.q (by rw [ht, e]; rfl) hne; rw [hg1, ht] at this; simpa using this
        have n1 : c1.q ≠ [] → a' 1 = a 1 + 1 := fun hne => by have := ha' 1 c1.q (by rw [ht, e]; rfl) hne; rw [hg1, ht] at this; simpa using this
        exact ⟨c0, c1, c2.c2 U.fresh g q, by rw [ht, e]; rfl, .inr (.inr ⟨ht, hB.stay rfl hcd hg2 hle n2 n0 n1⟩)⟩

theorem Fine.pop {S S1 : SchM} {f : FrameM} (h : Fine S) (hw : S.Wf) (hp : S.popM = some (f, S1)) : Fine S1 := by
  obtain ⟨k, q, h1, h2, h3, h4⟩ := popM_some hw hp
  intro j x hx g hg
  rw [h2] at hx
  by_cases hjk : k = j
  · subst hjk
    rw [List.getElem?_set_self (List.getElem?_eq_some_iff.1 h1).1] at hx
    obtain rfl := Option.some.inj hx
    exact h k _ h1 g (List.mem_cons_of_mem _ hg)
  · rw [List.getElem?_set_ne hjk] at hx
    exact h j x hx g hg
theorem Fine.push {S : SchM} (h : Fine S) {k : Nat} {f : FrameM} {q : List FrameM} (hk : f.cls = k) (hq : S.qs[k]? = some q) (ho : opCheck f.op = 0) (hc : 17 ≤ opCost f.op) : Fine (S.pushM f).2 := by
  obtain ⟨_, h2, _⟩ := push_qs hk hq ho
  intro j x hx g hg
  rw [h2] at hx
  by_cases hl : q.length < S.cap
  · rw [if_pos hl] at hx
    by_cases hjk : k = j
    · subst hjk
      rw [List.getElem?_set_self (List.getElem?_eq_some_iff.1 hq).1] at hx
      obtain rfl := Option.some.inj hx
      rcases List.mem_append.1 hg with hg | hg
      · exact h k q hq g hg
      · obtain rfl := List.mem_singleton.1 hg
        exact ⟨hk, hc⟩
    · rw [List.getElem?_set_ne hjk] at hx
      exact h j x hx g hg
  · rw [if_neg hl] at hx
    exact h j x hx g hg
theorem put_cost (k bytes i : Int) (h1 : 17 ≤ bytes) (h2 : bytes ≤ 81) : 17 ≤ opCost (putM k bytes i).op := by
  unfold opCost
  rw [if_pos (put_check k bytes i h1 h2)]
  have e2 : (putM k bytes i).op.key.size = 1 := rfl
  rw [e2]; omega

/-! ### Queues and what was put in -/
structure VInv (S : SchM) (rows : List IL) : Prop where
  wf : S.Wf
  cap : S.cap = 16
  three : rows.length = 3
  qs3 : S.qs.length = 3
  ok : ∀ r ∈ rows, r.Ok
  link : ∀ (k : Nat) (r : IL) (q : List FrameM), rows[k]? = some r → S.qs[k]? = some q → q.map FrameM.seq = r.xs
theorem VInv.row {S : SchM} {rows : List IL} (h : VInv S rows) {k : Nat} (hk : k < 3) : ∃ r q, rows[k]? = some r ∧ S.qs[k]? = some q ∧ r.Ok ∧ q.map FrameM.seq = r.xs := by
  have h1 : k < rows.length := by rw [h.three]; exact hk
  have h2 : k < S.qs.length := by rw [h.qs3]; exact hk
  exact ⟨rows[k], S.qs[k], List.getElem?_eq_getElem h1, List.getElem?_eq_getElem h2, h.ok _ (List.getElem_mem h1), h.link k rows[k] S.qs[k] (List.getElem?_eq_getElem h1) (List.getElem?_eq_getElem h2)⟩
theorem VInv.set {S S1 : SchM} {rows : List IL} (h : VInv S rows) {k : Nat} {q : List FrameM} {r : IL} (hk : k < 3) (hw : S1.Wf) (hcap : S1.cap = S.cap) (hqs : S1.qs = S.qs.set k q) (hr : r.Ok) (hl : q.map FrameM.seq = r.xs) : VInv S1 (rows.set k r) := by
  refine ⟨hw, hcap.trans h.cap, by simpa using h.three, by rw [hqs]; simpa using h.qs3, fun x hx => ?_, fun m x y hx hy => ?_⟩
  · rcases List.mem_or_eq_of_mem_set hx with hx | rfl
    · exact h.ok x hx
    · exact hr
  · rw [hqs] at hy
    by_cases hkm : k = m
    · subst hkm
      rw [List.getElem?_set_self (by rw [h.three]; exact hk)] at hx
      rw [List.getElem?_set_self (by rw [h.qs3]; exact hk)] at hy
      obtain rfl := Option.some.inj hx
      obtain rfl := Option.some.inj hy
      exact hl
    · rw [List.getElem?_set_ne hkm] at hx hy
      exact h.link m x y hx hy
theorem VInv.pop {S S1 : SchM} {rows : List IL} {f : FrameM} (h : VInv S rows) (hF : Fine S) (hp : S.popM = some (f, S1)) :
    ∃ k r xs, k < 3 ∧ f.cls = (k : Nat) ∧ rows[k]? = some r ∧ r.Ok ∧ r.xs = f.seq :: xs ∧ VInv S1 (rows.set k r.tail) := by
  obtain ⟨k, q, h1, h2, h3, h4⟩ := popM_some h.wf hp
  have hk : k < 3 := by rw [← h.qs3]; exact (List.getElem?_eq_some_iff.1 h1).1
  obtain ⟨r, q', hr, hq, hok, hl⟩ := h.row hk
  rw [h1] at hq
  obtain rfl := Option.some.inj hq
  refine ⟨k, r, q.map FrameM.seq, hk, (hF k _ h1 f (by simp)).1, hr, hok, by rw [← hl]; rfl, ?_⟩
  exact h.set hk h4 h3 h2 (hok.tail (by rw [← hl]; simp)) (by simp [IL.tail, ← hl])
theorem VInv.idle {S : SchM} {rows : List IL} (h : VInv S rows) (hp : S.popM = none) : ∀ r ∈ rows, r.xs = [] := by
  intro r hr
  obtain ⟨k, hk⟩ := List.getElem?_of_mem hr
  have hk3 : k < 3 := by rw [← h.three]; exact (List.getElem?_eq_some_iff.1 hk).1
  obtain ⟨r', q, hr', hq, _, hl⟩ := h.row hk3
  rw [hk] at hr'
  obtain rfl := Option.some.inj hr'
  have := popM_none h.wf hp
  rw [idle_qs, List.all_eq_true] at this
  have h0 := List.isEmpty_iff.1 (this q (List.mem_of_getElem? hq))
  rw [← hl, h0]; rfl
theorem VInv.empty {S : SchM} {rows : List IL} (h : VInv S rows) (hz : ∀ r ∈ rows, r.xs = []) : S.popM = none ∧ S.waitM = [] := by
  have hq : ∀ q ∈ S.qs, q = [] := fun q hq => by
    obtain ⟨k, hk⟩ := List.getElem?_of_mem hq
    have hk3 : k < 3 := by rw [← h.qs3]; exact (List.getElem?_eq_some_iff.1 hk).1
    obtain ⟨r, q', hr, hq', _, hl⟩ := h.row hk3
    rw [hk] at hq'
    obtain rfl := Option.some.inj hq'
    rw [hz r (List.mem_of_getElem? hr)] at hl
    exact List.map_eq_nil_iff.1 hl
  have hi : S.idle = true := by
    rw [idle_qs, List.all_eq_true]
    intro q hq'; rw [hq q hq']; rfl
  refine ⟨by unfold SchM.popM; rw [if_pos hi], ?_⟩
  rw [wait_qs, List.flatten_eq_nil_iff]
  exact hq
theorem VInv.push {S : SchM} {rows : List IL} {f : FrameM} {k : Nat} {r : IL} (h : VInv S rows) (hk : k < 3) (h1 : f.cls = k) (ho : opCheck f.op = 0) (hr : rows[k]? = some r) :
    ((S.pushM f).1 = 0 ∧ r.xs.length < 16 ∧ ∀ r' : IL, r'.Ok → r'.xs = r.xs ++ [f.seq] → VInv (S.pushM f).2 (rows.set k r')) ∨ ((S.pushM f).1 = 60 ∧ ¬ r.xs.length < 16 ∧ VInv (S.pushM f).2 rows) := by
  obtain ⟨r0, q, hr0, hq, hok, hl⟩ := h.row hk
  rw [hr] at hr0
  obtain rfl := Option.some.inj hr0
  obtain ⟨e1, e2, e3⟩ := push_qs h1 hq ho
  have hw := push_wf h.wf f
  have hlen : r.xs.length = q.length := by rw [← hl, List.length_map]
  have hc := h.cap
  by_cases hlt : q.length < S.cap
  · rw [if_pos hlt] at e1 e2
    refine .inl ⟨e1, by omega, fun r' hr' hx => ?_⟩
    refine h.set hk hw e3 e2 hr' ?_
    rw [List.map_append, hl, hx, List.map_singleton]
  · rw [if_neg hlt] at e1 e2
    exact .inr ⟨e1, by omega, hw, e3.trans h.cap, h.three, by rw [e2]; exact h.qs3, h.ok, fun m x y hx hy => h.link m x y hx (by rw [← e2]; exact hy)⟩
theorem VInv.few {S : SchM} {rows : List IL} (h : VInv S rows) {r : IL} (hr : r ∈ rows) : r.xs.length ≤ 16 := by
  obtain ⟨k, hk⟩ := List.getElem?_of_mem hr
  have hk3 : k < 3 := by rw [← h.three]; exact (List.getElem?_eq_some_iff.1 hk).1
  obtain ⟨r', q, hr', hq, _, hl⟩ := h.row hk3
  rw [hk] at hr'
  obtain rfl := Option.some.inj hr'
  unfold SchM.qs at hq
  rw [List.getElem?_map] at hq
  cases hc : S.cls[k]? with
  | none => rw [hc] at hq; cases hq
  | some c =>
    rw [hc] at hq
    obtain rfl : c.q = q := Option.some.inj hq
    have := h.wf.qs c (List.mem_of_getElem? hc)
    have := h.cap
    rw [← hl, List.length_map]; omega
theorem vinv_xs {rows rows' : List IL} (h : rows'.map IL.xs = rows.map IL.xs) {S : SchM} (hW : VInv S rows) (hok : ∀ r ∈ rows', r.Ok) : VInv S rows' := by
  have hl : rows'.length = rows.length := by have := congrArg List.length h; simpa using this
  refine ⟨hW.wf, hW.cap, by rw [hl]; exact hW.three, hW.qs3, hok, fun k r q hr hq => ?_⟩
  have hk : k < rows.length := by rw [← hl]; exact (List.getElem?_eq_some_iff.1 hr).1
  have hg := List.getElem?_eq_getElem hk
  refine (hW.link k rows[k] q hg hq).trans ?_
  have e : (rows'.map IL.xs)[k]? = (rows.map IL.xs)[k]? := by rw [h]
  rw [List.getElem?_map, List.getElem?_map, hr, hg] at e
  exact (Option.some.inj e).symm

/-- While nothing is taken out: no credit, the first class's turn. -/
structure CalmS (q0 q1 q2 : Int) (S : SchM) : Prop where
  turn : S.turn = 0
  fresh : S.fresh = true
  cls : ∃ c0 c1 c2, S.cls = [c0, c1, c2] ∧ c0.quantum = q0 ∧ c1.quantum = q1 ∧ c2.quantum = q2 ∧ c0.credit = 0 ∧ c1.credit = 0 ∧ c2.credit = 0
theorem CalmS.push {q0 q1 q2 : Int} {S : SchM} (h : CalmS q0 q1 q2 S) (f : FrameM) : CalmS q0 q1 q2 (S.pushM f).2 := by
  rcases push_cases S f with e | ⟨k, c, q, hc, e⟩
  · rw [e]; exact h
  · rw [e]
    obtain ⟨c0, c1, c2, hcls, h1, h2, h3, h4, h5, h6⟩ := h.cls
    refine ⟨h.turn, h.fresh, ?_⟩
    simp only [SchM.setC, hcls] at hc ⊢
    match k, hc with
    | 0, hc => obtain rfl := Option.some.inj hc; exact ⟨_, c1, c2, rfl, h1, h2, h3, h4, h5, h6⟩
    | 1, hc => obtain rfl := Option.some.inj hc; exact ⟨c0, _, c2, rfl, h1, h2, h3, h4, h5, h6⟩
    | 2, hc => obtain rfl := Option.some.inj hc; exact ⟨c0, c1, _, rfl, h1, h2, h3, h4, h5, h6⟩
    | n + 3, hc => cases hc
def Q3 (q0 q1 q2 : Int) : Nat → Int | 0 => q0 | 1 => q1 | _ => q2
theorem CalmS.bal {q0 q1 q2 : Int} {S : SchM} (h : CalmS q0 q1 q2 S) (h0 : 0 ≤ q0) (h1 : 0 ≤ q1) (h2 : 0 ≤ q2) : Bal (Q3 q0 q1 q2) (fun _ => 0) S := by
  obtain ⟨c0, c1, c2, hcls, e1, e2, e3, e4, e5, e6⟩ := h.cls
  refine ⟨c0, c1, c2, hcls, .inl ⟨h.turn, e1, e2, e3, fun _ => ?_, fun _ => ?_, fun _ => ?_⟩⟩
  · rw [h.fresh]; simp only [if_true, full, Q3]; omega
  · rw [h.fresh]; simp only [if_true, full, Q3, e4, e1]; omega
  · rw [h.fresh]; simp only [if_true, full, Q3, e4, e1]; omega
/-- How often a class that has requests was passed over, at most. -/
theorem Bal.most {q0 q1 q2 : Int} {a : Nat → Int} {S : SchM} (hw : S.Wf) (h : Bal (Q3 q0 q1 q2) a S) {k : Nat} {q : List FrameM} (hk : S.qs[k]? = some q) (hne : q ≠ []) : a k ≤ full q0 + full q1 + full q2 ∧ 0 ≤ full q0 ∧ 0 ≤ full q1 ∧ 0 ≤ full q2 := by
  obtain ⟨c0, c1, c2, e, hB⟩ := h
  have w0 := hw.cls c0 (by rw [e]; simp); have w1 := hw.cls c1 (by rw [e]; simp); have w2 := hw.cls c2 (by rw [e]; simp)
  have a0 := w0.c0; have a1 := w1.c0; have a2 := w2.c0; have b0 := w0.q0; have b1 := w1.q0; have b2 := w2.q0
  have hk3 : k < 3 := by have := (List.getElem?_eq_some_iff.1 hk).1; simpa [SchM.qs, e] using this
  have cur : ∀ c : ClsM, 0 ≤ c.credit → 0 ≤ c.quantum → 0 ≤ (if S.fresh then c.credit + c.quantum else c.credit) / 17 := fun c h1 h2 => by split <;> omega
  have t0 := cur c0 a0 (by omega); have t1 := cur c1 a1 (by omega); have t2 := cur c2 a2 (by omega)
  have key : ∀ {t n l : Nat} {ct cn cl : ClsM}, Bd (Q3 q0 q1 q2) a t n l S.fresh ct cn cl → 0 ≤ ct.quantum → 0 ≤ cn.quantum → 0 ≤ cl.quantum → 0 ≤ full (Q3 q0 q1 q2 t) ∧ 0 ≤ full (Q3 q0 q1 q2 n) ∧ 0 ≤ full (Q3 q0 q1 q2 l) := fun hb h1 h2 h3 => by
    have := hb.qt; have := hb.qn; have := hb.ql
    unfold full; omega
  have hfr : (0 : Int) ≤ if S.fresh then 0 else 0 := by split <;> omega
  rcases hB with ⟨ht, hB⟩ | ⟨ht, hB⟩ | ⟨ht, hB⟩
  all_goals
    obtain ⟨f1, f2, f3⟩ := key hB (by omega) (by omega) (by omega)
    simp only [Q3] at f1 f2 f3
    have b1' := hB.bt; have b2' := hB.bn; have b3' := hB.bl
    simp only [Q3] at b1' b2' b3'
    match k, hk3, hk with
    | 0, _, hk =>
      have hq : c0.q = q := by simpa [SchM.qs, e] using hk
      first
        | (have := b1' (by rw [hq]; exact hne); split at this <;> omega)
        | (have := b2' (by rw [hq]; exact hne); omega)
        | (have := b3' (by rw [hq]; exact hne); omega)
    | 1, _, hk =>
      have hq : c1.q = q := by simpa [SchM.qs, e] using hk
      first
        | (have := b1' (by rw [hq]; exact hne); split at this <;> omega)
        | (have := b2' (by rw [hq]; exact hne); omega)
        | (have := b3' (by rw [hq]; exact hne); omega)
    | 2, _, hk =>
      have hq : c2.q = q := by simpa [SchM.qs, e] using hk
      first
        | (have := b1' (by rw [hq]; exact hne); split at this <;> omega)
        | (have := b2' (by rw [hq]; exact hne); omega)
        | (have := b3' (by rw [hq]; exact hne); omega)
end Go.Proofs.Ytpgcjbddjghkdaa.Sched
