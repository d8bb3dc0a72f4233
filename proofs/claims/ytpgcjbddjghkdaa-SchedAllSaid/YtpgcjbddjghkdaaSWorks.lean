/- SchedWorks' plain law: queues, what was put in, and what is gone. No program is in sight. No condition. -/
import Derived.Test.YtpgcjbddjghkdaaSCredit
import Derived.Test.YtpgcjbddjghkdaaVgN
namespace Go.Proofs.Ytpgcjbddjghkdaa.Sched
open Go Go.Proofs.Ytpgcjbddjghkdaa.Vg Go.Proofs.Ytpgcjbddjghkdaa.Api Go.Proofs.Ytpgcjbddjghkdaa.SLaw
set_option linter.unusedSimpArgs false
set_option linter.unusedVariables false

/-- What waits in a class: of that class, its deadline its number, in order, below a number. -/
structure Good (k : Nat) (i : Int) (q : List FrameM) : Prop where
  mem : ∀ f ∈ q, f.cls = k ∧ f.deadline = f.seq ∧ f.seq < i
  sorted : q.Pairwise fun f g => f.seq < g.seq
theorem Good.mono {k : Nat} {i j : Int} {q : List FrameM} (h : Good k i q) (hij : i ≤ j) : Good k j q := ⟨fun f hf => ⟨(h.mem f hf).1, (h.mem f hf).2.1, by have := (h.mem f hf).2.2; omega⟩, h.sorted⟩
theorem Good.nil (k : Nat) (i : Int) : Good k i [] := ⟨fun f hf => (by cases hf), .nil⟩
theorem Good.tail {k : Nat} {i : Int} {f : FrameM} {q : List FrameM} (h : Good k i (f :: q)) : Good k i q := ⟨fun g hg => h.mem g (List.mem_cons_of_mem _ hg), (List.pairwise_cons.1 h.sorted).2⟩
theorem Good.filter {k : Nat} {i : Int} {q : List FrameM} (h : Good k i q) (p : FrameM → Bool) : Good k i (q.filter p) := ⟨fun f hf => h.mem f (List.mem_filter.1 hf).1, h.sorted.filter p⟩
theorem Good.snoc {k : Nat} {i : Int} {q : List FrameM} {f : FrameM} (h : Good k i q) (h1 : f.cls = k) (h2 : f.deadline = f.seq) (h3 : f.seq = i) : Good k (i + 1) (q ++ [f]) := by
  refine ⟨fun g hg => ?_, List.pairwise_append.2 ⟨h.sorted, List.pairwise_singleton _ _, fun g hg y hy => ?_⟩⟩
  · rcases List.mem_append.1 hg with hg | hg
    · have := h.mem g hg; exact ⟨this.1, this.2.1, by omega⟩
    · obtain rfl := List.mem_singleton.1 hg; exact ⟨h1, h2, by omega⟩
  · obtain rfl := List.mem_singleton.1 hy
    have := (h.mem g hg).2.2; omega
/-- The head is not gone: none is. -/
theorem Good.stays {k : Nat} {i now : Int} {q : List FrameM} (h : Good k i q) (hh : ∀ f, q.head? = some f → ¬ f.seq < now) : q.filter (gone now) = [] := by
  rw [List.filter_eq_nil_iff]
  intro g hg
  cases q with
  | nil => cases hg
  | cons f q =>
    have hf := hh f rfl
    have hd := (h.mem g hg).2.1
    have : f.seq ≤ g.seq := by
      rcases List.mem_cons.1 hg with rfl | hg'
      · exact Int.le_refl _
      · exact Int.le_of_lt ((List.pairwise_cons.1 h.sorted).1 g hg')
    simp only [gone, hd, decide_eq_true_eq]; omega
theorem Good.goes {k : Nat} {i now : Int} {f : FrameM} {q : List FrameM} (h : Good k i (f :: q)) (hf : f.seq < now) : gone now f = true := by
  have := (h.mem f (by simp)).2.1
  simp only [gone, decide_eq_true_eq]; omega

structure WInv (i : Int) (S : SchM) (rows : List IL) : Prop where
  wf : S.Wf
  cap : S.cap = 16
  three : rows.length = 3
  qs3 : S.qs.length = 3
  ok : ∀ r ∈ rows, r.Ok
  link : ∀ (k : Nat) (r : IL) (q : List FrameM), rows[k]? = some r → S.qs[k]? = some q → q.map FrameM.seq = r.xs ∧ Good k i q

theorem WInv.row {i : Int} {S : SchM} {rows : List IL} (h : WInv i S rows) {k : Nat} (hk : k < 3) : ∃ r q, rows[k]? = some r ∧ S.qs[k]? = some q ∧ r.Ok ∧ q.map FrameM.seq = r.xs ∧ Good k i q := by
  have h1 : k < rows.length := by rw [h.three]; exact hk
  have h2 : k < S.qs.length := by rw [h.qs3]; exact hk
  have := h.link k rows[k] S.qs[k] (List.getElem?_eq_getElem h1) (List.getElem?_eq_getElem h2)
  exact ⟨rows[k], S.qs[k], List.getElem?_eq_getElem h1, List.getElem?_eq_getElem h2, h.ok _ (List.getElem_mem h1), this.1, this.2⟩
theorem WInv.mono {i j : Int} {S : SchM} {rows : List IL} (h : WInv i S rows) (hij : i ≤ j) : WInv j S rows := ⟨h.wf, h.cap, h.three, h.qs3, h.ok, fun k r q h1 h2 => ⟨(h.link k r q h1 h2).1, (h.link k r q h1 h2).2.mono hij⟩⟩

/-- One row and its queue changed alike. -/
theorem WInv.set {i j : Int} {S S1 : SchM} {rows : List IL} (h : WInv i S rows) {k : Nat} {q : List FrameM} {r : IL} (hk : k < 3) (hw : S1.Wf) (hcap : S1.cap = S.cap) (hqs : S1.qs = S.qs.set k q) (hr : r.Ok) (hl : q.map FrameM.seq = r.xs) (hg : Good k j q) (hij : i ≤ j) : WInv j S1 (rows.set k r) := by
  refine ⟨hw, hcap.trans h.cap, by simpa using h.three, by rw [hqs]; simpa using h.qs3, fun x hx => ?_, fun m x y hx hy => ?_⟩
  · rcases List.mem_or_eq_of_mem_set hx with hx | rfl
    · exact h.ok x hx
    · exact hr
  · rw [hqs] at hy
    by_cases hkm : k = m
    · subst hkm
      rw [List.getElem?_set_self (by rw [h.three]; exact hk)] at hx
      rw [List.getElem?_set_self (by rw [h.qs3]; exact hk)] at hy
      obtain rfl := Option.some.inj hx
      obtain rfl := Option.some.inj hy
      exact ⟨hl, hg⟩
    · rw [List.getElem?_set_ne hkm] at hx hy
      exact (h.mono hij).link m x y hx hy

/-! ### What expires, compared one by one -/
structure EInv (i now : Int) (S : SchM) (G : List FrameM) (c at_ : Nat) (rows : List IL) (qr : List (List FrameM)) : Prop where
  three : rows.length = 3
  qr3 : qr.length = 3
  ok : ∀ r ∈ rows, r.Ok
  link : ∀ (k : Nat) (r : IL) (q : List FrameM), rows[k]? = some r → qr[k]? = some q → q.map FrameM.seq = r.xs ∧ Good k i q
  keeps : ∀ k : Nat, (qr[k]?).map (List.filter (Sched.stay now)) = (S.qs[k]?).map (List.filter (Sched.stay now))
  done : ∀ (k : Nat) (q : List FrameM), k < c → qr[k]? = some q → q.filter (gone now) = []
  atle : at_ ≤ G.length
  left : G.drop at_ = (qr.drop c).flatMap (List.filter (gone now))
theorem EInv.start {i now : Int} {S : SchM} {rows : List IL} (h : WInv i S rows) : EInv i now S (S.goneM now) 0 0 rows S.qs :=
  ⟨h.three, h.qs3, h.ok, h.link, fun k => rfl, fun k q hk => by omega, Nat.zero_le _, by rw [gone_qs]; rfl⟩
theorem EInv.row {i now : Int} {S : SchM} {G : List FrameM} {c at_ : Nat} {rows : List IL} {qr : List (List FrameM)} (h : EInv i now S G c at_ rows qr) {k : Nat} (hk : k < 3) : ∃ r q, rows[k]? = some r ∧ qr[k]? = some q ∧ r.Ok ∧ q.map FrameM.seq = r.xs ∧ Good k i q := by
  have h1 : k < rows.length := by rw [h.three]; exact hk
  have h2 : k < qr.length := by rw [h.qr3]; exact hk
  have := h.link k rows[k] qr[k] (List.getElem?_eq_getElem h1) (List.getElem?_eq_getElem h2)
  exact ⟨rows[k], qr[k], List.getElem?_eq_getElem h1, List.getElem?_eq_getElem h2, h.ok _ (List.getElem_mem h1), this.1, this.2⟩
/-- The next class. -/
theorem EInv.next {i now : Int} {S : SchM} {G : List FrameM} {c at_ : Nat} {rows : List IL} {qr : List (List FrameM)} (h : EInv i now S G c at_ rows qr) (hc : c < 3) {r : IL} (hr : rows[c]? = some r) (hh : ∀ x, r.xs.head? = some x → ¬ x < now) : EInv i now S G (c + 1) at_ rows qr := by
  have h2 : c < qr.length := by rw [h.qr3]; exact hc
  have hq := List.getElem?_eq_getElem h2
  have hdrop : qr.drop c = qr[c] :: qr.drop (c + 1) := List.drop_eq_getElem_cons h2
  generalize qr[c] = q at hq hdrop
  obtain ⟨hl, hg⟩ := h.link c r q hr hq
  have hz : q.filter (gone now) = [] := hg.stays (fun f hf => by
    apply hh
    rw [← hl]
    cases q with
    | nil => cases hf
    | cons g q => obtain rfl : g = f := Option.some.inj hf; rfl)
  refine ⟨h.three, h.qr3, h.ok, h.link, h.keeps, fun k y hk hy => ?_, h.atle, ?_⟩
  · by_cases hkc : k = c
    · subst hkc; rw [hq] at hy; obtain rfl := Option.some.inj hy; exact hz
    · exact h.done k y (by omega) hy
  · rw [h.left, hdrop, List.flatMap_cons, hz]; rfl
/-- One that is gone. -/
theorem EInv.take {i now : Int} {S : SchM} {G : List FrameM} {c at_ : Nat} {rows : List IL} {qr : List (List FrameM)} (h : EInv i now S G c at_ rows qr) (hc : c < 3) {r : IL} {x : Int} {xs : List Int} (hr : rows[c]? = some r) (hx : r.xs = x :: xs) (hlt : x < now) :
    ∃ f qr', G[at_]? = some f ∧ f.seq = x ∧ f.cls = c ∧ EInv i now S G c (at_ + 1) (rows.set c r.tail) qr' := by
  have h2 : c < qr.length := by rw [h.qr3]; exact hc
  have h1 : c < rows.length := by rw [h.three]; exact hc
  have hq := List.getElem?_eq_getElem h2
  have hdrop : qr.drop c = qr[c] :: qr.drop (c + 1) := List.drop_eq_getElem_cons h2
  generalize qr[c] = q at hq hdrop
  obtain ⟨hl, hg⟩ := h.link c r q hr hq
  cases q with
  | nil => rw [hx] at hl; simp at hl
  | cons f q =>
    rw [hx, List.map_cons] at hl
    obtain ⟨hl1, hl2⟩ := List.cons.inj hl
    have hgo : gone now f = true := hg.goes (by omega)
    have hst : Sched.stay now f = false := by simp [Sched.stay, hgo]
    have hleft := h.left
    rw [hdrop, List.flatMap_cons, List.filter_cons_of_pos hgo] at hleft
    have hat : at_ < G.length := by
      rcases Nat.lt_or_ge at_ G.length with hh | hh
      · exact hh
      · rw [List.drop_eq_nil_of_le hh] at hleft; cases hleft
    have hd2 := List.drop_eq_getElem_cons hat
    rw [hd2, List.cons_append] at hleft
    obtain ⟨e1, e2⟩ := List.cons.inj hleft
    refine ⟨f, qr.set c q, by rw [List.getElem?_eq_getElem hat, e1], hl1, (hg.mem f (by simp)).1, ?_⟩
    have hrok := h.ok r (List.mem_of_getElem? hr)
    refine ⟨by simpa using h.three, by simpa using h.qr3, fun y hy => ?_, fun k y z hy hz => ?_, fun k => ?_, fun k y hk hy => ?_, hat, ?_⟩
    · rcases List.mem_or_eq_of_mem_set hy with hy | rfl
      · exact h.ok y hy
      · exact hrok.tail (by rw [hx]; simp)
    · by_cases hkc : c = k
      · subst hkc
        rw [List.getElem?_set_self h1] at hy
        rw [List.getElem?_set_self h2] at hz
        obtain rfl := Option.some.inj hy
        obtain rfl := Option.some.inj hz
        exact ⟨by simp [IL.tail, hx, hl2], hg.tail⟩
      · rw [List.getElem?_set_ne hkc] at hy hz
        exact h.link k y z hy hz
    · rw [← h.keeps k]
      by_cases hkc : c = k
      · subst hkc
        rw [List.getElem?_set_self h2, hq, Option.map_some, Option.map_some, List.filter_cons_of_neg (by simp [hst])]
      · rw [List.getElem?_set_ne hkc]
    · rw [List.getElem?_set_ne (by omega)] at hy
      exact h.done k y hk hy
    · rw [e2]
      have : (qr.set c q).drop c = q :: qr.drop (c + 1) := by
        rw [List.drop_eq_getElem_cons (by simpa using h2)]
        have e9 : (qr.set c q).drop (c + 1) = qr.drop (c + 1) := List.ext_getElem? fun m => by rw [List.getElem?_drop, List.getElem?_drop, List.getElem?_set_ne (by omega)]
        rw [e9]; simp
      rw [this, List.flatMap_cons]
/-- All classes are through. -/
theorem EInv.done_all {i now : Int} {S : SchM} {at_ : Nat} {rows : List IL} {qr : List (List FrameM)} (hS : S.Wf) (hcap : S.cap = 16) (h3 : S.qs.length = 3) (h : EInv i now S (S.goneM now) 3 at_ rows qr) : at_ = (S.goneM now).length ∧ WInv i (S.expM now) rows := by
  have hl := h.left
  have e0 : qr.drop 3 = [] := List.drop_eq_nil_of_le (by rw [h.qr3]; omega)
  rw [e0, List.flatMap_nil] at hl
  have := h.atle
  have hlen := congrArg List.length hl
  rw [List.length_drop, List.length_nil] at hlen
  refine ⟨by omega, exp_wf hS now, hcap, h.three, by rw [exp_qs, List.length_map]; exact h3, h.ok, fun k r q hr hq => ?_⟩
  rw [exp_qs, List.getElem?_map, ← h.keeps k] at hq
  cases hk : qr[k]? with
  | none => rw [hk] at hq; cases hq
  | some y =>
    rw [hk] at hq
    obtain rfl := Option.some.inj hq
    have hk3 : k < 3 := by rw [← h.qr3]; exact (List.getElem?_eq_some_iff.1 hk).1
    have hz := h.done k y hk3 hk
    have e : y.filter (Sched.stay now) = y := by
      rw [List.filter_eq_self]
      intro f hf
      have := List.filter_eq_nil_iff.1 hz f hf
      simpa [Sched.stay] using this
    obtain ⟨h5, h6⟩ := h.link k r y hr hk
    rw [e]; exact ⟨h5, h6⟩

theorem WInv.pop {i : Int} {S S1 : SchM} {rows : List IL} {f : FrameM} (h : WInv i S rows) (hp : S.popM = some (f, S1)) :
    ∃ k r xs, k < 3 ∧ f.cls = (k : Nat) ∧ rows[k]? = some r ∧ r.Ok ∧ r.xs = f.seq :: xs ∧ WInv i S1 (rows.set k r.tail) := by
  obtain ⟨k, q, h1, h2, h3, h4⟩ := popM_some h.wf hp
  have hk : k < 3 := by rw [← h.qs3]; exact (List.getElem?_eq_some_iff.1 h1).1
  obtain ⟨r, q', hr, hq, hok, hl, hg⟩ := h.row hk
  rw [h1] at hq
  obtain rfl := Option.some.inj hq
  refine ⟨k, r, q.map FrameM.seq, hk, (hg.mem f (by simp)).1, hr, hok, by rw [← hl]; rfl, ?_⟩
  exact h.set hk h4 h3 h2 (hok.tail (by rw [← hl]; simp)) (by simp [IL.tail, ← hl]) hg.tail (Int.le_refl _)
theorem WInv.idle {i : Int} {S : SchM} {rows : List IL} (h : WInv i S rows) (hp : S.popM = none) : ∀ r ∈ rows, r.xs = [] := by
  intro r hr
  obtain ⟨k, hk⟩ := List.getElem?_of_mem hr
  have hk3 : k < 3 := by rw [← h.three]; exact (List.getElem?_eq_some_iff.1 hk).1
  obtain ⟨r', q, hr', hq, _, hl, _⟩ := h.row hk3
  rw [hk] at hr'
  obtain rfl := Option.some.inj hr'
  have := popM_none h.wf hp
  rw [idle_qs, List.all_eq_true] at this
  have h0 := List.isEmpty_iff.1 (this q (List.mem_of_getElem? hq))
  rw [← hl, h0]; rfl
theorem WInv.push {i : Int} {S : SchM} {rows : List IL} {f : FrameM} {k : Nat} {r : IL} (h : WInv i S rows) (hk : k < 3) (h1 : f.cls = k) (h2 : f.seq = i) (h3 : f.deadline = i) (ho : opCheck f.op = 0) (hr : rows[k]? = some r) :
    ((S.pushM f).1 = 0 ∧ r.xs.length < 16 ∧ ∀ r' : IL, r'.Ok → r'.xs = r.xs ++ [i] → WInv (i + 1) (S.pushM f).2 (rows.set k r')) ∨ ((S.pushM f).1 = 60 ∧ WInv (i + 1) (S.pushM f).2 rows) := by
  obtain ⟨r0, q, hr0, hq, hok, hl, hg⟩ := h.row hk
  rw [hr] at hr0
  obtain rfl := Option.some.inj hr0
  obtain ⟨e1, e2, e3⟩ := push_qs h1 hq ho
  have hw := push_wf h.wf f
  have hlen : r.xs.length = q.length := by rw [← hl, List.length_map]
  by_cases hlt : q.length < S.cap
  · rw [if_pos hlt] at e1 e2
    refine .inl ⟨e1, by rw [hlen]; have := h.cap; omega, fun r' hr' hx => ?_⟩
    refine h.set hk hw e3 e2 hr' ?_ (hg.snoc h1 (h3.trans h2.symm) h2) (by omega)
    rw [List.map_append, hl, hx, List.map_singleton, h2]
  · rw [if_neg hlt] at e1 e2
    refine .inr ⟨e1, ?_⟩
    have e4 : (S.pushM f).2 = S := by
      rcases push_cases S f with e | ⟨k', c, q', hc, e⟩
      · exact e
      · unfold SchM.pushM at e1 ⊢
        cases ha : S.at_ f.cls with
        | none => rfl
        | some c =>
          simp only [ha] at e1 ⊢
          split
          · rfl
          · split
            · rename_i hx hy; rw [if_neg hx, if_pos hy] at e1; cases e1
            · rfl
    rw [e4]; exact h.mono (by omega)
theorem WInv.few {i : Int} {S : SchM} {rows : List IL} (h : WInv i S rows) {r : IL} (hr : r ∈ rows) : r.xs.length ≤ 16 := by
  obtain ⟨k, hk⟩ := List.getElem?_of_mem hr
  have hk3 : k < 3 := by rw [← h.three]; exact (List.getElem?_eq_some_iff.1 hk).1
  obtain ⟨r', q, hr', hq, _, hl, _⟩ := h.row hk3
  rw [hk] at hr'
  obtain rfl := Option.some.inj hr'
  unfold SchM.qs at hq
  rw [List.getElem?_map] at hq
  cases hc : S.cls[k]? with
  | none => rw [hc] at hq; cases hq
  | some c =>
    rw [hc] at hq
    obtain rfl : c.q = q := Option.some.inj hq
    have := h.wf.qs c (List.mem_of_getElem? hc)
    have := h.cap
    rw [← hl, List.length_map]; omega
theorem WInv.start {q0 q1 q2 : Int} (h : newOk [q0, q1, q2] 16 = true) : WInv 0 (SchM.new [q0, q1, q2] 16) [IL.none, IL.none, IL.none] := by
  refine ⟨SchM.new_wf h, rfl, rfl, rfl, fun r hr => ?_, fun k r q hr hq => ?_⟩
  · simp only [List.mem_cons, List.not_mem_nil, or_false, or_self] at hr
    subst hr; exact IL.none_ok
  · match k, hr, hq with
    | 0, hr, hq => obtain rfl := Option.some.inj hr; obtain rfl : [] = q := Option.some.inj hq; exact ⟨rfl, Good.nil _ _⟩
    | 1, hr, hq => obtain rfl := Option.some.inj hr; obtain rfl : [] = q := Option.some.inj hq; exact ⟨rfl, Good.nil _ _⟩
    | 2, hr, hq => obtain rfl := Option.some.inj hr; obtain rfl : [] = q := Option.some.inj hq; exact ⟨rfl, Good.nil _ _⟩
    | n + 3, hr, _ => cases hr
theorem zeros_size (n : Nat) : (zeros n).size = n := by simp [zeros, ByteArray.size]
theorem put_check (k bytes i : Int) (h1 : 17 ≤ bytes) (h2 : bytes ≤ 81) : opCheck (putM k bytes i).op = 0 := by
  have hs : (putM k bytes i).op.value.size = (bytes - 17).toNat := zeros_size _
  have hb : opBad (putM k bytes i).op = false := by
    unfold opBad
    have e1 : (putM k bytes i).op.kind = 2 := rfl
    have e2 : (putM k bytes i).op.key.size = 1 := rfl
    have e3 : (putM k bytes i).op.version = 0 := rfl
    simp [e1, e2, e3]
  have hl : opLong (putM k bytes i).op = false := by
    unfold opLong
    have e2 : (putM k bytes i).op.key.size = 1 := rfl
    rw [hs, e2]; simp; omega
  simp [opCheck, hb, hl]
end Go.Proofs.Ytpgcjbddjghkdaa.Sched
