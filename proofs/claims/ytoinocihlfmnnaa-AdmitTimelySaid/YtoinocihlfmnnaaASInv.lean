/- Admission, without memory: of each client at most one call waits. No condition. -/
import Derived.Test.YtoinocihlfmnnaaAInv
namespace Go.Proofs.Ytoinocihlfmnnaa.Adm
open Go Go.Proofs.Ytoinocihlfmnnaa.Vg Go.Proofs.Ytoinocihlfmnnaa.Api Go.Proofs.Ytoinocihlfmnnaa.Sched Go.Proofs.Ytoinocihlfmnnaa.Conf
set_option linter.unusedSimpArgs false
set_option linter.unusedVariables false

/-! ### Lists -/
theorem nodup_len {α : Type} [DecidableEq α] : ∀ {l m : List α}, l.Nodup → (∀ x ∈ l, x ∈ m) → l.length ≤ m.length
  | [], _, _, _ => Nat.zero_le _
  | x :: l, m, h, hs => by
    have hx := hs x (by simp)
    have h2 := List.nodup_cons.1 h
    have := nodup_len (m := m.erase x) h2.2 fun y hy => (List.mem_erase_of_ne (fun e => h2.1 (by rw [← e]; exact hy))).2 (hs y (by simp [hy]))
    rw [List.length_erase_of_mem hx] at this
    have := List.length_pos_of_mem hx
    rw [List.length_cons]; omega
theorem nodup_same {α β : Type} {g : α → β} : ∀ {l : List α}, (l.map g).Nodup → ∀ {a b : α}, a ∈ l → b ∈ l → g a = g b → a = b
  | [], _, a, _, ha, _, _ => by simp at ha
  | x :: l, h, a, b, ha, hb, e => by
    rw [List.map_cons, List.nodup_cons] at h
    rcases List.mem_cons.1 ha with rfl | ha2
    · rcases List.mem_cons.1 hb with rfl | hb2
      · rfl
      · exact absurd (List.mem_map.2 ⟨b, hb2, e.symm⟩ : _ ∈ l.map g) h.1
    · rcases List.mem_cons.1 hb with rfl | hb2
      · exact absurd (List.mem_map.2 ⟨a, ha2, e⟩ : _ ∈ l.map g) h.1
      · exact nodup_same h.2 ha2 hb2 e
theorem flat_snoc {α : Type} {f : α} : ∀ {l : List (List α)} {k : Nat} {q : List α}, l[k]? = some q → (l.set k (q ++ [f])).flatten.Perm (f :: l.flatten)
  | x :: l, 0, q, h => by
    obtain rfl : x = q := by simpa using h
    rw [List.set_cons_zero, List.flatten_cons, List.flatten_cons, List.append_assoc]
    exact List.perm_middle
  | x :: l, k + 1, q, h => by
    rw [List.set_cons_succ, List.flatten_cons, List.flatten_cons]
    exact ((flat_snoc (l := l) (k := k) (by simpa using h)).append_left x).trans List.perm_middle
  | [], _, _, h => by simp at h
theorem flat_head {α : Type} {f : α} : ∀ {l : List (List α)} {k : Nat} {q : List α}, l[k]? = some (f :: q) → l.flatten.Perm (f :: (l.set k q).flatten)
  | x :: l, 0, q, h => by
    obtain rfl : x = f :: q := by simpa using h
    rw [List.set_cons_zero, List.flatten_cons, List.flatten_cons]
    exact .refl _
  | x :: l, k + 1, q, h => by
    rw [List.set_cons_succ, List.flatten_cons, List.flatten_cons]
    exact ((flat_head (l := l) (k := k) (by simpa using h)).append_left x).trans List.perm_middle
  | [], _, _, h => by simp at h

/-! ### Who waits -/
def AdmM.all (A : AdmM) : List FrameM := A.sch.qs.flatten
structure SInv (nc : Int) (m cap : Nat) (A : AdmM) : Prop where
  wf : A.Wf
  clients : A.clients = nc
  len : A.sch.cls.length = m
  cap : A.sch.cap = cap
  may : ∀ f ∈ A.all, A.may f = true
  uniq : (A.all.map FrameM.client).Nodup
  wt : ∀ f ∈ A.all, A.wt f.client = f.seq
  back : ∀ k, 0 ≤ k → k < nc → A.wt k ≠ 0 → ∃ f ∈ A.all, f.client = k
theorem may_congr {A B : AdmM} (h1 : B.clients = A.clients) (h2 : B.sch.cls.length = A.sch.cls.length) (f : FrameM) : B.may f = A.may f := by
  simp only [AdmM.may, AdmM.has, h1, h2]
theorem SInv.calls {nc : Int} {m cap : Nat} {A : AdmM} (h : SInv nc m cap A) : A.Calls := fun q hq f hf => by
  obtain ⟨h1, h2, h3⟩ := may_client (h.may f (List.mem_flatten.2 ⟨q, hq, hf⟩))
  exact ⟨(has_iff _ _).1 h1, h2, h3⟩
theorem SInv.range {nc : Int} {m cap : Nat} {A : AdmM} (h : SInv nc m cap A) {f : FrameM} (hf : f ∈ A.all) : 0 ≤ f.client ∧ f.client < nc := by
  obtain ⟨h1, _, _⟩ := may_client (h.may f hf)
  have := (has_iff _ _).1 h1
  rw [h.clients] at this; exact this
theorem SInv.seq {nc : Int} {m cap : Nat} {A : AdmM} (h : SInv nc m cap A) {f : FrameM} (hf : f ∈ A.all) : f.seq ≠ 0 := by
  obtain ⟨_, h2, _⟩ := may_client (h.may f hf)
  simp only [numM, Bool.and_eq_true, decide_eq_true_eq] at h2
  omega
theorem SInv.six {nc : Int} {m cap : Nat} {A : AdmM} (h : SInv nc m cap A) : nc ≤ 6 := by have := h.wf.c1; rw [h.clients] at this; exact this
/-- Nothing of what waits is another one. -/
theorem SInv.same {nc : Int} {m cap : Nat} {A B : AdmM} (h : SInv nc m cap A) (hw : B.Wf) (hc : B.clients = A.clients) (hs : B.sch = A.sch) (hwt : B.waits = A.waits) : SInv nc m cap B := by
  have hall : B.all = A.all := by rw [AdmM.all, AdmM.all, hs]
  have hwt2 : ∀ k, B.wt k = A.wt k := fun k => by rw [AdmM.wt, AdmM.wt, hwt]
  refine ⟨hw, hc.trans h.clients, by rw [hs]; exact h.len, by rw [hs]; exact h.cap, fun f hf => ?_, by rw [hall]; exact h.uniq, fun f hf => ?_, fun k h1 h2 h3 => ?_⟩
  · rw [may_congr (A := A) hc (by rw [hs])]; exact h.may f (hall ▸ hf)
  · rw [hwt2]; exact h.wt f (hall ▸ hf)
  · rw [hwt2] at h3; rw [hall]; exact h.back k h1 h2 h3

theorem SInv.offer {nc : Int} {m cap : Nat} {A : AdmM} (h : SInv nc m cap A) (f : FrameM) (now : Int) : SInv nc m cap (A.offerM f now).2 := by
  by_cases h0 : (A.offerM f now).1 = 0
  · obtain ⟨hm, hb, hz, hd, hp, e⟩ := offer_in h0
    obtain ⟨h1, h2, h3⟩ := may_client hm
    obtain ⟨⟨k, hk, hlt⟩, ho⟩ := may_cls hm
    have hr := (has_iff _ _).1 h1
    have h6 := h.six
    have hr6 : 0 ≤ f.client ∧ f.client < 6 := ⟨hr.1, by have := h.clients; omega⟩
    have hq : A.sch.qs[k]? = some (A.sch.cls[k].q) := by simp [SchM.qs, List.getElem?_eq_getElem hlt]
    obtain ⟨p1, p2, p3⟩ := push_qs hk hq ho
    have hlt2 : (A.sch.cls[k].q).length < A.sch.cap := by
      apply Decidable.byContradiction
      intro hn; rw [if_neg hn] at p1; rw [p1] at hp; cases hp
    rw [if_pos hlt2] at p2
    have hperm : ((A.offerM f now).2).all.Perm (f :: A.all) := by
      rw [e]; show (A.sch.pushM f).2.qs.flatten.Perm _
      rw [p2]; exact flat_snoc hq
    have hwf := offer_wf h.wf f now
    have hcl := offer_clients A f now
    have hlen : (A.offerM f now).2.sch.cls.length = A.sch.cls.length := by rw [e]; exact push_len A.sch f
    have hwt : ∀ j, 0 ≤ j → (A.offerM f now).2.wt j = if j = f.client then f.seq else A.wt j := fun j hj => by
      rw [e, wt_setWt (h.wf.withSch (push_wf h.wf.sch f)) hr6 hj]; rfl
    have hnew : ∀ g ∈ A.all, g.client ≠ f.client := fun g hg e2 => by
      have := h.wt g hg
      rw [e2, hz] at this
      exact h.seq hg this.symm
    refine ⟨hwf, hcl.trans h.clients, hlen.trans h.len, by rw [e]; exact p3.trans h.cap, fun g hg => ?_, ?_, fun g hg => ?_, fun j hj hj2 hj3 => ?_⟩
    · rw [may_congr (A := A) hcl hlen]
      rcases List.mem_cons.1 (hperm.mem_iff.1 hg) with rfl | hg
      · exact hm
      · exact h.may g hg
    · rw [(hperm.map FrameM.client).nodup_iff, List.map_cons, List.nodup_cons]
      refine ⟨fun hmem => ?_, h.uniq⟩
      obtain ⟨g, hg, e2⟩ := List.mem_map.1 hmem
      exact hnew g hg e2
    · rcases List.mem_cons.1 (hperm.mem_iff.1 hg) with rfl | hg
      · rw [hwt _ hr.1, if_pos rfl]
      · rw [hwt _ (h.range hg).1, if_neg (hnew g hg)]; exact h.wt g hg
    · rw [hwt j hj] at hj3
      by_cases ej : j = f.client
      · exact ⟨f, hperm.mem_iff.2 (by simp), ej.symm⟩
      · rw [if_neg ej] at hj3
        obtain ⟨g, hg, e2⟩ := h.back j hj hj2 hj3
        exact ⟨g, hperm.mem_iff.2 (by simp [hg]), e2⟩
  · obtain ⟨h1, h2⟩ := offer_not now h0
    exact h.same (offer_wf h.wf f now) (offer_clients A f now) h1 h2

theorem expF_wt : ∀ (l : List FrameM) {A : AdmM}, A.Wf → (∀ f ∈ l, 0 ≤ f.client ∧ f.client < 6) → ∀ {j : Int}, 0 ≤ j → (A.expF l).wt j = if (l.any fun f => f.client == j) = true then 0 else A.wt j
  | [], A, _, _, j, _ => by simp [AdmM.expF]
  | f :: l, A, h, hf, j, hj => by
    have ih := expF_wt l (h.out f) (fun g hg => hf g (by simp [hg])) hj
    have e1 : (A.out f).wt j = if j = f.client then 0 else A.wt j := by
      rw [← wt_setWt h (hf f (by simp)) hj 0]
      simp only [AdmM.wt, AdmM.out, barF_waits]
    show (AdmM.expF (A.out f) l).wt j = _
    rw [ih, e1, List.any_cons]
    by_cases e : f.client = j
    · subst e; simp
    · have : (f.client == j) = false := by simpa using e
      rw [this, Bool.false_or, if_neg (show ¬ j = f.client from fun x => e x.symm)]
theorem all_exp {A : AdmM} (h : A.Wf) (now : Int) : (A.expireM now).all = A.all.filter (stay now) := by
  rw [AdmM.all, (expire_wf h now).2.2, exp_qs, AdmM.all, List.filter_flatten]
theorem gone_all (A : AdmM) (now : Int) : A.sch.goneM now = A.all.filter (gone now) := by
  rw [gone_qs, AdmM.all, List.filter_flatten, List.flatMap_def]
theorem SInv.expire {nc : Int} {m cap : Nat} {A : AdmM} (h : SInv nc m cap A) (now : Int) : SInv nc m cap (A.expireM now) := by
  obtain ⟨hwf, hcl, hs⟩ := expire_wf h.wf now
  have h6 := h.six
  have hall := all_exp h.wf now
  have hlen : (A.expireM now).sch.cls.length = A.sch.cls.length := by rw [hs]; exact exp_len _ _
  have hg6 : ∀ f ∈ A.sch.goneM now, 0 ≤ f.client ∧ f.client < 6 := fun f hf => by
    rw [gone_all] at hf
    have := h.range (List.mem_filter.1 hf).1
    omega
  have hwt : ∀ j, 0 ≤ j → (A.expireM now).wt j = if ((A.sch.goneM now).any fun f => f.client == j) = true then 0 else A.wt j := fun j hj =>
    expF_wt _ (h.wf.withSch (exp_wf h.wf.sch now)) hg6 hj
  refine ⟨hwf, hcl.trans h.clients, hlen.trans h.len, by rw [hs]; exact h.cap, fun f hf => ?_, ?_, fun f hf => ?_, fun k hk hk2 hk3 => ?_⟩
  · rw [may_congr (A := A) hcl hlen]
    rw [hall] at hf
    exact h.may f (List.mem_filter.1 hf).1
  · rw [hall]
    exact h.uniq.sublist (List.filter_sublist.map _)
  · rw [hall] at hf
    obtain ⟨hf1, hf2⟩ := List.mem_filter.1 hf
    rw [hwt _ (h.range hf1).1, if_neg]
    · exact h.wt f hf1
    · intro ha
      obtain ⟨g, hg, e⟩ := List.any_eq_true.1 ha
      rw [gone_all] at hg
      obtain ⟨hg1, hg2⟩ := List.mem_filter.1 hg
      have : g = f := nodup_same h.uniq hg1 hf1 (eq_of_beq e)
      subst this
      simp [stay, hg2] at hf2
  · rw [hwt k hk] at hk3
    split at hk3
    · exact absurd rfl hk3
    · rename_i hn
      obtain ⟨f, hf, e⟩ := h.back k hk hk2 hk3
      refine ⟨f, ?_, e⟩
      rw [hall]
      refine List.mem_filter.2 ⟨hf, ?_⟩
      cases hgf : gone now f with
      | false => simp [stay, hgf]
      | true => exact absurd (List.any_eq_true.2 ⟨f, by rw [gone_all]; exact List.mem_filter.2 ⟨hf, hgf⟩, by simp [e]⟩) hn
theorem SInv.next {nc : Int} {m cap : Nat} {A : AdmM} (h : SInv nc m cap A) (now : Int) : SInv nc m cap (A.nextM now) := by
  have h := h.expire now
  unfold AdmM.nextM
  generalize A.expireM now = B at h ⊢
  have h6 := h.six
  cases ho : (popV B.sch).2.1 with
  | false =>
    obtain ⟨_, e⟩ := popV_no h.wf.sch ho
    rw [if_neg (by simp)]
    exact h.same (h.wf.withSch (popV_wf h.wf.sch)) rfl e rfl
  | true =>
    rw [if_pos rfl]
    obtain ⟨k, q, hk, hq⟩ := popV_ok h.wf.sch ho
    have hcap : (popV B.sch).2.2.cap = B.sch.cap := by
      unfold popV at ho ⊢
      cases hp : B.sch.popM with
      | none => rfl
      | some r => obtain ⟨f, S1⟩ := r; obtain ⟨_, _, _, _, hc, _⟩ := popM_some h.wf.sch hp; exact hc
    generalize (popV B.sch).1 = g at hk ⊢
    have hperm : B.all.Perm (g :: (popV B.sch).2.2.qs.flatten) := by rw [hq]; exact flat_head hk
    have hg : g ∈ B.all := hperm.mem_iff.2 (by simp)
    have hgr := h.range hg
    have hg6 : 0 ≤ g.client ∧ g.client < 6 := by omega
    have hlen := popV_len h.wf.sch
    have hW : ((B.withSch (popV B.sch).2.2).setWt g.client 0).all = (popV B.sch).2.2.qs.flatten := rfl
    have hu := (hperm.map FrameM.client).nodup_iff.1 h.uniq
    rw [List.map_cons, List.nodup_cons] at hu
    have hwf := (h.wf.withSch (popV_wf h.wf.sch))
    have hwt : ∀ j, 0 ≤ j → ((B.withSch (popV B.sch).2.2).setWt g.client 0).wt j = if j = g.client then 0 else B.wt j := fun j hj => by
      rw [wt_setWt hwf hg6 hj]; rfl
    refine ⟨hwf.setWt _ _, h.clients, hlen.trans h.len, hcap.trans h.cap, fun f hf => ?_, hu.2, fun f hf => ?_, fun j hj hj2 hj3 => ?_⟩
    · rw [may_congr (A := B) (B := (B.withSch (popV B.sch).2.2).setWt g.client 0) rfl hlen]
      exact h.may f (hperm.mem_iff.2 (List.mem_cons_of_mem _ hf))
    · have hf2 : f ∈ B.all := hperm.mem_iff.2 (List.mem_cons_of_mem _ hf)
      rw [hwt _ (h.range hf2).1, if_neg (fun e => hu.1 (List.mem_map.2 ⟨f, hf, e⟩))]
      exact h.wt f hf2
    · rw [hwt j hj] at hj3
      split at hj3
      · exact absurd rfl hj3
      · rename_i hn
        obtain ⟨f, hf, e⟩ := h.back j hj hj2 hj3
        rcases List.mem_cons.1 (hperm.mem_iff.1 hf) with rfl | hf
        · exact absurd e.symm hn
        · exact ⟨f, hf, e⟩

/-! ### As many wait as clients have one -/
def AdmM.cnt (A : AdmM) (n : Nat) : Nat := ((List.range n).filter fun k : Nat => !(A.wt k == 0)).length
theorem cnt_succ (A : AdmM) (n : Nat) : A.cnt (n + 1) = A.cnt n + if A.wt n = 0 then 0 else 1 := by
  rw [AdmM.cnt, List.range_succ, List.filter_append, List.length_append, AdmM.cnt]
  by_cases h : A.wt n = 0 <;> simp [h]
theorem SInv.count {nc : Int} {m cap : Nat} {A : AdmM} (h : SInv nc m cap A) : A.all.length = A.cnt nc.toNat := by
  have hn0 : 0 ≤ nc := by have := h.wf.c0; rw [h.clients] at this; omega
  have e1 : A.cnt nc.toNat = (((List.range nc.toNat).filter fun k : Nat => !(A.wt k == 0)).map fun k : Nat => (k : Int)).length := by rw [List.length_map]; rfl
  have hnd : (((List.range nc.toNat).filter fun k : Nat => !(A.wt k == 0)).map fun k : Nat => (k : Int)).Nodup := by
    rw [List.Nodup, List.pairwise_map]
    have : ((List.range nc.toNat).filter fun k : Nat => !(A.wt k == 0)).Nodup := List.nodup_range.sublist List.filter_sublist
    exact this.imp fun h e => h (by omega)
  apply Nat.le_antisymm
  · rw [e1, show A.all.length = (A.all.map FrameM.client).length from (List.length_map _).symm]
    refine nodup_len h.uniq fun x hx => ?_
    obtain ⟨f, hf, rfl⟩ := List.mem_map.1 hx
    have hr := h.range hf
    refine List.mem_map.2 ⟨f.client.toNat, List.mem_filter.2 ⟨List.mem_range.2 (by omega), ?_⟩, by omega⟩
    have e : ((f.client.toNat : Nat) : Int) = f.client := by omega
    rw [e, h.wt f hf]
    simpa using h.seq hf
  · rw [e1, show A.all.length = (A.all.map FrameM.client).length from (List.length_map _).symm]
    refine nodup_len hnd fun x hx => ?_
    obtain ⟨k, hk, rfl⟩ := List.mem_map.1 hx
    obtain ⟨hk1, hk2⟩ := List.mem_filter.1 hk
    have hk1 := List.mem_range.1 hk1
    obtain ⟨f, hf, e⟩ := h.back k (by omega) (by omega) (by simpa using hk2)
    exact List.mem_map.2 ⟨f, hf, e⟩
theorem SInv.start (c : ConfM) : SInv (fitM c).clients (fitM c).qs.length (fitM c).queue.toNat (newA (fitM c)) := by
  have hall : (newA (fitM c)).all = [] := by
    have : ∀ l : List Int, (l.map fun _ => ([] : List FrameM)).flatten = [] := fun l => by induction l <;> simp_all
    show ((SchM.new (fitM c).qs (fitM c).queue).cls.map ClsM.q).flatten = []
    simp only [SchM.new, List.map_map]
    exact this _
  refine ⟨newA_wf (fit_idem c), rfl, by simp [newA, SchM.new], rfl, fun f hf => ?_, ?_, fun f hf => ?_, fun k h1 h2 h3 => ?_⟩
  · rw [hall] at hf; simp at hf
  · rw [hall]; simp
  · rw [hall] at hf; simp at hf
  · exfalso; apply h3
    simp only [AdmM.wt, newA]
    cases hk : (List.replicate 6 (0 : Int))[k.toNat]? with
    | none => rfl
    | some v => exact List.eq_of_mem_replicate (List.mem_of_getElem? hk)
end Go.Proofs.Ytoinocihlfmnnaa.Adm
