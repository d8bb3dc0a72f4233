/- Admission, without memory: those of one class are told in the order in which they were taken. No condition. -/
import Derived.Test.YtoinocihlfmnnaaASInv
import Derived.Test.YtoinocihlfmnnaaALeft
namespace Go.Proofs.Ytoinocihlfmnnaa.Adm
open Go Go.Proofs.Ytoinocihlfmnnaa.Vg Go.Proofs.Ytoinocihlfmnnaa.Api Go.Proofs.Ytoinocihlfmnnaa.Sched Go.Proofs.Ytoinocihlfmnnaa.Conf
set_option linter.unusedSimpArgs false
set_option linter.unusedVariables false

def key (f : FrameM) : T3 := (f.cls, f.client, f.seq)
structure TInv (nc : Int) (m n : Nat) (A : AdmM) (ins : List T3) : Prop where
  wf : A.Wf
  calls : A.Calls
  clients : A.clients = nc
  len : A.sch.cls.length = m
  nodup : ins.Nodup
  seqs : ∀ t ∈ ins, t.2.2 ≤ n
  few : ins.length ≤ n
  order : ∀ (k : Nat) (q : List FrameM), A.sch.qs[k]? = some q → ins.filter (fun t => t.1 == (k : Int)) = q.map key

/-! ### Lists -/
theorem classes_nodup : ∀ (L : List (List T3)) (o : Nat), (∀ (k : Nat) (P : List T3), L[k]? = some P → P.Nodup ∧ ∀ t ∈ P, t.1 = ((o + k : Nat) : Int)) → L.flatten.Nodup
  | [], _, _ => by simp
  | x :: L, o, h => by
    have h0 := h 0 x rfl
    have ih := classes_nodup L (o + 1) fun k P hP => by
      have := h (k + 1) P (by simpa using hP)
      rw [show o + 1 + k = o + (k + 1) from by omega]; exact this
    rw [List.flatten_cons, List.nodup_append]
    refine ⟨h0.1, ih, fun a ha b hb e => ?_⟩
    subst e
    obtain ⟨P, hP, hb⟩ := List.mem_flatten.1 hb
    obtain ⟨k, hk⟩ := List.getElem?_of_mem hP
    have h1 := h0.2 a ha
    have h2 := (h (k + 1) P (by simpa using hk)).2 a hb
    omega
theorem without_len {l : List T3} {t : T3} (hn : l.Nodup) (ht : t ∈ l) : (without l t).length + 1 = l.length := by
  induction l with
  | nil => simp at ht
  | cons x l ih =>
    rw [List.nodup_cons] at hn
    by_cases e : x = t
    · subst e
      have : without l x = l := by
        unfold without
        rw [List.filter_eq_self]
        intro y hy
        have : y ≠ x := fun e => hn.1 (e ▸ hy)
        simp [this]
      rw [show without (x :: l) x = without l x from by simp [without], this]; rfl
    · have ht2 : t ∈ l := by
        rcases List.mem_cons.1 ht with h | h
        · exact absurd h.symm e
        · exact h
      have := ih hn.2 ht2
      rw [show without (x :: l) t = x :: without l t from by simp [without, e], List.length_cons, List.length_cons, this]
def dropAll (ins : List T3) (gs : List FrameM) : List T3 := gs.foldl (fun l g => without l (key g)) ins
theorem dropAll_snoc (ins : List T3) (gs : List FrameM) (g : FrameM) : dropAll ins (gs ++ [g]) = without (dropAll ins gs) (key g) := by simp [dropAll]
theorem dropAll_eq : ∀ (gs : List FrameM) (ins : List T3), dropAll ins gs = ins.filter fun t => !(gs.any fun g => decide (t = key g))
  | [], ins => by
    show ins = _
    rw [List.filter_eq_self.2]
    intro t _; rfl
  | g :: gs, ins => by
    show dropAll (without ins (key g)) gs = _
    rw [dropAll_eq gs, without, List.filter_filter]
    congr 1
    funext t
    simp only [List.any_cons, Bool.not_or]
    exact Bool.and_comm _ _
theorem filter_head {p : T3 → Bool} : ∀ {l : List T3} {x : T3} {r : List T3}, l.filter p = x :: r → ∃ i : Nat, l[i]? = some x ∧ ∀ j : Nat, j < i → ∀ y : T3, l[j]? = some y → p y = false
  | [], x, r, h => by simp at h
  | y :: l, x, r, h => by
    by_cases hp : p y = true
    · rw [List.filter_cons_of_pos hp] at h
      obtain ⟨rfl, _⟩ := List.cons.inj h
      exact ⟨0, rfl, fun j hj => by omega⟩
    · rw [List.filter_cons_of_neg hp] at h
      obtain ⟨i, h1, h2⟩ := filter_head h
      refine ⟨i + 1, by simpa using h1, fun j hj z hz => ?_⟩
      cases j with
      | zero =>
        obtain rfl : y = z := by simpa using hz
        simpa using hp
      | succ j => exact h2 j (by omega) z (by simpa using hz)

/-! ### What is known of those that wait -/
theorem TInv.cls {nc : Int} {m n : Nat} {A : AdmM} {ins : List T3} (h : TInv nc m n A ins) {k : Nat} {q : List FrameM} (hk : A.sch.qs[k]? = some q) {f : FrameM} (hf : f ∈ q) : f.cls = k ∧ key f ∈ ins := by
  have : key f ∈ ins.filter (fun t => t.1 == (k : Int)) := by rw [h.order k q hk]; exact List.mem_map.2 ⟨f, hf, rfl⟩
  obtain ⟨h1, h2⟩ := List.mem_filter.1 this
  exact ⟨eq_of_beq h2, h1⟩
theorem TInv.keys {nc : Int} {m n : Nat} {A : AdmM} {ins : List T3} (h : TInv nc m n A ins) : (A.all.map key).Nodup := by
  rw [AdmM.all, List.map_flatten]
  refine classes_nodup _ 0 fun k P hP => ?_
  rw [List.getElem?_map] at hP
  cases hq : A.sch.qs[k]? with
  | none => rw [hq] at hP; cases hP
  | some q =>
    rw [hq] at hP
    obtain rfl : q.map key = P := Option.some.inj hP
    refine ⟨by rw [← h.order k q hq]; exact h.nodup.sublist List.filter_sublist, fun t ht => ?_⟩
    obtain ⟨f, hf, rfl⟩ := List.mem_map.1 ht
    rw [Nat.zero_add]; exact (h.cls hq hf).1
theorem TInv.mem {nc : Int} {m n : Nat} {A : AdmM} {ins : List T3} (h : TInv nc m n A ins) {f : FrameM} (hf : f ∈ A.all) : key f ∈ ins := by
  obtain ⟨q, hq, hf⟩ := List.mem_flatten.1 hf
  obtain ⟨k, hk⟩ := List.getElem?_of_mem hq
  exact (h.cls hk hf).2
theorem TInv.same {nc : Int} {m n : Nat} {A B : AdmM} {ins : List T3} (h : TInv nc m n A ins) (hw : B.Wf) (hC : B.Calls) (hc : B.clients = A.clients) (hs : B.sch = A.sch) : TInv nc m n B ins :=
  ⟨hw, hC, hc.trans h.clients, by rw [hs]; exact h.len, h.nodup, h.seqs, h.few, by rw [hs]; exact h.order⟩
theorem TInv.more {nc : Int} {m n : Nat} {A : AdmM} {ins : List T3} (h : TInv nc m n A ins) : TInv nc m (n + 1) A ins :=
  ⟨h.wf, h.calls, h.clients, h.len, h.nodup, fun t ht => by have := h.seqs t ht; push_cast; omega, by have := h.few; omega, h.order⟩
theorem TInv.offer0 {nc : Int} {m n : Nat} {A : AdmM} {ins : List T3} (h : TInv nc m n A ins) {f : FrameM} {now : Int} (hs : f.seq = 1 + (n : Int)) (h0 : (A.offerM f now).1 = 0) : TInv nc m (n + 1) (A.offerM f now).2 (ins ++ [key f]) := by
  obtain ⟨hm, hb, hz, hd, hp, e⟩ := offer_in h0
  obtain ⟨⟨k, hk, hlt⟩, ho⟩ := may_cls hm
  have hq : A.sch.qs[k]? = some (A.sch.cls[k].q) := by simp [SchM.qs, List.getElem?_eq_getElem hlt]
  obtain ⟨p1, p2, p3⟩ := push_qs hk hq ho
  have hlt2 : (A.sch.cls[k].q).length < A.sch.cap := by
    apply Decidable.byContradiction
    intro hn; rw [if_neg hn] at p1; rw [p1] at hp; cases hp
  rw [if_pos hlt2] at p2
  refine ⟨offer_wf h.wf f now, offer_calls h.calls f now, (offer_clients A f now).trans h.clients, by rw [e]; exact (push_len A.sch f).trans h.len, ?_, fun t ht => ?_, by rw [List.length_append]; have := h.few; simp; omega, fun j q hj => ?_⟩
  · rw [List.nodup_append]
    refine ⟨h.nodup, by simp, fun a ha b hb e2 => ?_⟩
    obtain rfl := List.mem_singleton.1 hb
    have := h.seqs a ha
    rw [e2] at this
    have h9 : (key f).2.2 = f.seq := rfl
    omega
  · rcases List.mem_append.1 ht with ht | ht
    · have := h.seqs t ht; push_cast; omega
    · obtain rfl := List.mem_singleton.1 ht
      show f.seq ≤ _
      rw [hs]; push_cast; omega
  · rw [e] at hj
    replace hj : (A.sch.pushM f).2.qs[j]? = some q := hj
    rw [p2] at hj
    have hkq : k < A.sch.qs.length := (List.getElem?_eq_some_iff.1 hq).1
    rw [List.filter_append]
    by_cases hjk : k = j
    · subst hjk
      rw [List.getElem?_set_self hkq] at hj
      obtain rfl := Option.some.inj hj
      rw [h.order k _ hq, List.map_append]
      have : (key f).1 = (k : Int) := hk
      simp [this]
    · rw [List.getElem?_set_ne hjk] at hj
      rw [h.order j q hj]
      have : ((key f).1 == (j : Int)) = false := by
        have h9 : (key f).1 = (k : Int) := hk
        rw [h9, beq_eq_false_iff_ne]; omega
      simp [this]
theorem TInv.offer1 {nc : Int} {m n : Nat} {A : AdmM} {ins : List T3} (h : TInv nc m n A ins) {f : FrameM} {now : Int} (h0 : (A.offerM f now).1 ≠ 0) : TInv nc m (n + 1) (A.offerM f now).2 ins :=
  (h.same (offer_wf h.wf f now) (offer_calls h.calls f now) (offer_clients A f now) (offer_not now h0).1).more

/-- One after the other is taken off; each was there. -/
theorem TInv.gone1 {nc : Int} {m n : Nat} {A : AdmM} {ins : List T3} (h : TInv nc m n A ins) (now : Int) {j : Nat} {g : FrameM} (hj : (A.sch.goneM now)[j]? = some g) :
    (without (dropAll ins ((A.sch.goneM now).take j)) (key g)).length + 1 = (dropAll ins ((A.sch.goneM now).take j)).length := by
  have hgm := List.mem_of_getElem? hj
  have hga : g ∈ A.all := by rw [gone_all] at hgm; exact (List.mem_filter.1 hgm).1
  have hk : ((A.sch.goneM now).map key).Nodup := by
    rw [gone_all]; exact h.keys.sublist (List.filter_sublist.map _)
  rw [dropAll_eq]
  refine without_len (h.nodup.sublist List.filter_sublist) (List.mem_filter.2 ⟨h.mem hga, ?_⟩)
  simp only [Bool.not_eq_true', List.any_eq_false, decide_eq_true_eq]
  intro x hx e
  obtain ⟨i, hi⟩ := List.getElem?_of_mem hx
  have hij : i < j := by
    have := (List.getElem?_eq_some_iff.1 hi).1
    rw [List.length_take] at this; omega
  rw [List.getElem?_take, if_pos hij] at hi
  have h1 : ((A.sch.goneM now).map key)[i]? = some (key x) := by rw [List.getElem?_map, hi]; rfl
  have h2 : ((A.sch.goneM now).map key)[j]? = some (key g) := by rw [List.getElem?_map, hj]; rfl
  have hil := (List.getElem?_eq_some_iff.1 h1)
  have hjl := (List.getElem?_eq_some_iff.1 h2)
  have hne := List.pairwise_iff_getElem.1 hk i j hil.1 hjl.1 hij
  exact hne (by rw [hil.2, hjl.2, e])
theorem TInv.expire {nc : Int} {m n : Nat} {A : AdmM} {ins : List T3} (h : TInv nc m n A ins) (now : Int) : TInv nc m n (A.expireM now) (dropAll ins (A.sch.goneM now)) := by
  obtain ⟨hwf, hcl, hs⟩ := expire_wf h.wf now
  rw [dropAll_eq]
  refine ⟨hwf, exp_calls h.wf h.calls now, hcl.trans h.clients, by rw [hs]; exact (exp_len _ _).trans h.len, h.nodup.sublist List.filter_sublist, fun t ht => h.seqs t (List.mem_filter.1 ht).1, Nat.le_trans (List.length_filter_le _ _) h.few, fun k q hk => ?_⟩
  rw [hs, exp_qs, List.getElem?_map] at hk
  cases hq : A.sch.qs[k]? with
  | none => rw [hq] at hk; cases hk
  | some q0 =>
    rw [hq] at hk
    obtain rfl : q0.filter (stay now) = q := Option.some.inj hk
    rw [List.filter_filter]
    rw [show (fun t : T3 => (t.1 == (k : Int)) && !(A.sch.goneM now).any fun g => decide (t = key g)) = fun t => (!(A.sch.goneM now).any fun g => decide (t = key g)) && (t.1 == (k : Int)) from funext fun t => Bool.and_comm _ _, ← List.filter_filter, h.order k q0 hq, List.filter_map]
    congr 1
    apply List.filter_congr
    intro f hf
    have hfa : f ∈ A.all := List.mem_flatten.2 ⟨q0, List.mem_of_getElem? hq, hf⟩
    cases hg : gone now f with
    | true =>
      have : ((A.sch.goneM now).any fun g => decide (key f = key g)) = true := List.any_eq_true.2 ⟨f, by rw [gone_all]; exact List.mem_filter.2 ⟨hfa, hg⟩, by simp⟩
      simp [stay, hg, this]
    | false =>
      have : ((A.sch.goneM now).any fun g => decide (key f = key g)) = false := by
        rw [List.any_eq_false]
        intro g hgm e
        rw [gone_all] at hgm
        obtain ⟨hg1, hg2⟩ := List.mem_filter.1 hgm
        have := nodup_same h.keys hfa hg1 (of_decide_eq_true e)
        subst this
        rw [hg] at hg2; cases hg2
      simp [stay, hg, this]
/-- The next one is the first of its class. -/
theorem TInv.pop {nc : Int} {m n : Nat} {B : AdmM} {ins : List T3} (h : TInv nc m n B ins) (ho : (popV B.sch).2.1 = true) :
    (∃ i : Nat, ins[i]? = some (key (popV B.sch).1) ∧ ∀ j : Nat, j < i → ∀ y : T3, ins[j]? = some y → (y.1 == (popV B.sch).1.cls) = false) ∧ (popV B.sch).1 ∈ B.all ∧
    TInv nc m n ((B.withSch (popV B.sch).2.2).setWt (popV B.sch).1.client 0) (without ins (key (popV B.sch).1)) := by
  obtain ⟨k, q, hk, hq⟩ := popV_ok h.wf.sch ho
  have hC := pop_calls h.wf.sch h.calls
  have hlen := popV_len h.wf.sch
  have hS := popV_wf h.wf.sch
  generalize (popV B.sch).1 = g at hk ⊢
  generalize (popV B.sch).2.2 = S1 at hq hC hlen hS ⊢
  have hgc := (h.cls hk (f := g) (by simp)).1
  have hgm : g ∈ B.all := List.mem_flatten.2 ⟨_, List.mem_of_getElem? hk, by simp⟩
  have ho2 := h.order k _ hk
  rw [List.map_cons] at ho2
  refine ⟨?_, hgm, ⟨(h.wf.withSch hS).setWt _ _, hC, h.clients, hlen.trans h.len, h.nodup.sublist List.filter_sublist, fun t ht => h.seqs t (List.mem_filter.1 ht).1, Nat.le_trans (List.length_filter_le _ _) h.few, fun j q' hj => ?_⟩⟩
  · rw [hgc]; exact filter_head ho2
  · replace hj : S1.qs[j]? = some q' := hj
    rw [hq] at hj
    have hkq : k < B.sch.qs.length := (List.getElem?_eq_some_iff.1 hk).1
    rw [without, List.filter_filter]
    rw [show (fun t : T3 => (t.1 == (j : Int)) && !decide (t = key g)) = fun t => (!decide (t = key g)) && (t.1 == (j : Int)) from funext fun t => Bool.and_comm _ _, ← List.filter_filter]
    by_cases hjk : k = j
    · subst hjk
      rw [List.getElem?_set_self hkq] at hj
      obtain rfl := Option.some.inj hj
      rw [ho2]
      have hnd : (key g :: q.map key).Nodup := by rw [← ho2]; exact h.nodup.sublist List.filter_sublist
      rw [List.nodup_cons] at hnd
      rw [List.filter_cons_of_neg (by simp), List.filter_eq_self]
      intro t ht
      have : t ≠ key g := fun e => hnd.1 (e ▸ ht)
      simp [this]
    · rw [List.getElem?_set_ne hjk] at hj
      rw [h.order j q' hj, List.filter_eq_self]
      intro t ht
      obtain ⟨f, hf, rfl⟩ := List.mem_map.1 ht
      have h1 := (h.cls hj hf).1
      have : key f ≠ key g := fun e => by
        have := congrArg Prod.fst e
        have h2 : f.cls = g.cls := this
        omega
      simp [this]
theorem TInv.start (c : ConfM) : TInv (fitM c).clients (fitM c).qs.length 0 (newA (fitM c)) [] := by
  refine ⟨newA_wf (fit_idem c), newA_calls _, rfl, by simp [newA, SchM.new], by simp, fun t ht => by simp at ht, Nat.le_refl _, fun k q hk => ?_⟩
  have : q = [] := by
    have hm := List.mem_of_getElem? hk
    simp only [newA, SchM.qs, SchM.new, List.map_map, List.mem_map] at hm
    obtain ⟨x, _, rfl⟩ := hm
    rfl
  rw [this]; rfl
end Go.Proofs.Ytoinocihlfmnnaa.Adm
