/- AdmitSticks, walked through. Conditions: the kinds' bounds. -/
import Derived.Test.YtoinocihlfmnnaaASInv
import Derived.Test.YtoinocihlfmnnaaABars
namespace Go.Proofs.Ytoinocihlfmnnaa.Adm
open Go Go.Proofs.Ytoinocihlfmnnaa.Vg Go.Proofs.Ytoinocihlfmnnaa.T Go.Proofs.Ytoinocihlfmnnaa.Api Go.Proofs.Ytoinocihlfmnnaa.Sched Go.Proofs.Ytoinocihlfmnnaa.Conf
set_option linter.unusedSimpArgs false
set_option linter.unusedVariables false
attribute [local irreducible] VO VC VA

def bools (l : List Bool) : List Value := l.map fun b => .bool b
theorem bools_at {l : List Bool} {i : Nat} {b : Bool} (h : l[i]? = some b) : (bools l)[0 + i * 1]? = some (.bool b) := by rw [Nat.zero_add, Nat.mul_one, bools, List.getElem?_map, h]; rfl
theorem bools_set (l : List Bool) (i : Nat) (b : Bool) : (bools l).set (0 + i * 1) (.bool b) = bools (l.set i b) := by rw [Nat.zero_add, Nat.mul_one, bools, bools, List.map_set]
def tryF (nc : Int) (m : Nat) (x : TryM) : FrameM := { callM (x.client % nc) (1 + x.seq % 4) (1 + x.try_ % 3) x.deadline with cls := x.cls % m }
theorem tryF_may {A : AdmM} {nc : Int} {m : Nat} (hc : A.clients = nc) (hl : A.sch.cls.length = m) (hm : 1 ≤ m) (h0 : 1 ≤ nc) {x : TryM} (hx : x.Byte) : A.may (tryF nc m x) = true := by
  have h1 := Int.emod_nonneg x.client (show nc ≠ 0 by omega)
  have h2 := Int.emod_lt_of_pos x.client (show 0 < nc by omega)
  have h3 := Int.emod_nonneg x.cls (show (m : Int) ≠ 0 by omega)
  have h4 := Int.emod_lt_of_pos x.cls (show (0 : Int) < m by omega)
  have h5 := hx.deadline
  have e1 : numM (1 + x.seq % 4) = true := by simp [numM]; omega
  have e2 : numM (1 + x.try_ % 3) = true := by simp [numM]; omega
  have e3 : opCheck (tryF nc m x).op = 0 := by show opCheck ⟨3, ⟨#[107]⟩, ⟨#[]⟩, 0⟩ = 0; decide +kernel
  have e4 : readsM (tryF nc m x).op = false := by show readsM ⟨3, ⟨#[107]⟩, ⟨#[]⟩, 0⟩ = false; decide +kernel
  have e5 : A.has (tryF nc m x).client = true := by rw [has_iff, hc]; exact ⟨h1, h2⟩
  simp only [AdmM.may, Bool.and_eq_true, decide_eq_true_eq, beq_iff_eq, Bool.not_eq_true']
  exact ⟨⟨⟨⟨⟨⟨⟨⟨⟨e5, rfl⟩, e1⟩, e2⟩, h3⟩, by rw [hl]; exact h4⟩, h5.1⟩, (by show x.deadline ≤ _; omega)⟩, e3⟩, e4⟩
def RInv (nc : Int) (m : Nat) (l : List TryM) (ref : List Bool) (A : AdmM) : Prop := ref.length = l.length ∧ ∀ (i : Nat) (x : TryM), l[i]? = some x → ref[i]? = some true → A.barred (tryF nc m x).client (tryF nc m x).seq (tryF nc m x).try_ = true
theorem RInv.le {nc : Int} {m : Nat} {l : List TryM} {ref : List Bool} {A B : AdmM} (h : RInv nc m l ref A) (hl : Le A B) : RInv nc m l ref B := ⟨h.1, fun i x h1 h2 => hl.marks _ _ _ (h.2 i x h1 h2)⟩
theorem len_le {nc : Int} {m cap : Nat} {A : AdmM} (h : SInv nc m cap A) {k : Nat} (hk : k < m) : ∃ q, A.sch.qs[k]? = some q ∧ A.sch.lenM k = q.length ∧ q.length ≤ cap := by
  have hk2 : k < A.sch.cls.length := by rw [h.len]; exact hk
  have hq : A.sch.qs[k]? = some A.sch.cls[k].q := by simp [SchM.qs, List.getElem?_eq_getElem hk2]
  refine ⟨_, hq, by rw [len_qs, hq], ?_⟩
  rw [← h.cap]
  exact h.wf.sch.qs _ (List.getElem_mem hk2)
theorem flushed {nc : Int} {m cap : Nat} {A : AdmM} (h : SInv nc m cap A) : (A.expireM 9223372036854775807).sch.lenM 0 = 0 := by
  have hall : (A.expireM 9223372036854775807).all = [] := by
    rw [all_exp h.wf]
    apply List.filter_eq_nil_iff.2
    intro f hf
    have := h.may f hf
    simp only [AdmM.may, Bool.and_eq_true, decide_eq_true_eq] at this
    have hd := this.1.1.2
    simp [stay, gone]; omega
  have := len_qs (A.expireM 9223372036854775807).sch 0
  rw [show ((0 : Nat) : Int) = 0 from rfl] at this
  rw [this]
  cases hq : (A.expireM 9223372036854775807).sch.qs[0]? with
  | none => rfl
  | some q =>
    have : q = [] := by
      apply List.eq_nil_iff_forall_not_mem.2
      intro f hf
      have : f ∈ (A.expireM 9223372036854775807).all := List.mem_flatten.2 ⟨q, List.mem_of_getElem? hq, hf⟩
      rw [hall] at this; simp at this
    rw [this]; rfl

set_option maxHeartbeats 4000000 in
set_option maxRecDepth 100000 in
theorem sticks_spec (Fr : Nat → Prop) (w : World) (c : ConfM) (ca : Option Addr) (cc : Nat) (la : Option Addr) (lc : Nat) (l : List TryM) (hq : IntsIn Fr w ca c.qs) (hl : TriesIn Fr w la l) :
    Tri Try.prog 5 [.agg (c.cells ca cc).toArray, .slice la l.length lc] Fr w [] (fun v L => v = .bool true ∧ L = []) := by
  refine Tri.of 257 Try.func5 rfl (by kernel_rfl) tabOk rfl rfl ?_
  refine VC.seq (VC.region (VO.go (VO.boxA (vs := c.cells ca cc) rfl fun cb => VO.go (VO.nil ?_))))
  (repeat (first | refine VC.seq ?_ | refine VC.region ?_ | refine VC.block ?_ | refine VC.label ?_ | refine VC.scope ?_ | refine VO.go (VO.nil ?_) | refine VO.go (VO.ld 0 rfl rfl rfl rfl ?_)))
  refine VO.go (VO.split 31 rfl rfl (fun h0 => VO.go (VO.nil (VC.condT rfl ?_))) (fun h0 => VO.go (VO.nil (VC.condP rfl (fun h1 => ?_) (fun h1 => VC.skip ?_)))))
  · (repeat (first | refine VC.seq ?_ | refine VC.region ?_ | refine VC.block ?_ | refine VC.label ?_ | refine VC.scope ?_ | refine VO.go (VO.nil ?_) | refine VO.go (VO.ld 0 rfl rfl rfl rfl ?_)))
    refine VO.go (VO.callV (fun Fr w => offered_spec Fr w) rfl (VO.go (VO.nil ?_)))
    exact VC.ret (Ret.bool 4 rfl rfl rfl Imp.nil.ent ⟨rfl, rfl⟩)
  · (repeat (first | refine VC.seq ?_ | refine VC.region ?_ | refine VC.block ?_ | refine VC.label ?_ | refine VC.scope ?_ | refine VO.go (VO.nil ?_) | refine VO.go (VO.ld 0 rfl rfl rfl rfl ?_)))
    refine VO.go (VO.callV (fun Fr w => offered_spec Fr w) rfl (VO.go (VO.nil ?_)))
    exact VC.ret (Ret.bool 4 rfl rfl rfl Imp.nil.ent ⟨rfl, rfl⟩)
  have hlen : l.length ≤ 60 := by omega
  (repeat (first | refine VC.seq ?_ | refine VC.region ?_ | refine VC.block ?_ | refine VC.label ?_ | refine VC.scope ?_ | refine VO.go (VO.nil ?_) | refine VO.go (VO.ld 0 rfl rfl rfl rfl ?_)))
  refine VO.go (VO.ldA 0 (c.cells ca cc) rfl rfl rfl rfl ?_)
  refine VO.go (VO.call (Lc := []) (fun Fr w hF hs _ => rfit_spec Fr w c ca cc (ints_of hq hF hs)) rfl rfl ?_)
  rintro _ _ ⟨a, cap, ha, hcap, rfl, rfl⟩
  refine VO.go (VO.stA (vs := (fitM c).cells a cap) (cs' := (fitM c).cells a cap) 1 rfl rfl rfl rfl (Nat.le_refl _) rfl rfl rfl (VO.go (VO.nil ?_)))
  (repeat (first | refine VC.seq ?_ | refine VC.region ?_ | refine VC.block ?_ | refine VC.label ?_ | refine VC.scope ?_ | refine VO.go (VO.nil ?_) | refine VO.go (VO.ld 0 rfl rfl rfl rfl ?_)))
  refine VO.go (VO.ldA 1 ((fitM c).cells a cap) rfl rfl rfl rfl ?_)
  refine VO.go (VO.call (Lc := []) (fun Fr w _ _ h2 => new_fit Fr w c a cap (ints_sl (h2.at_ 0 rfl)) ha hcap) rfl rfl ?_)
  rintro _ _ ⟨p, rfl, rfl⟩
  (repeat (first | refine VC.seq ?_ | refine VC.region ?_ | refine VC.block ?_ | refine VC.label ?_ | refine VC.scope ?_ | refine VO.go (VO.nil ?_) | refine VO.go (VO.ld 0 rfl rfl rfl rfl ?_)))
  refine VC.condNE rfl (fun h => absurd rfl h) (fun _ => VC.skip ?_)
  have hcl := (conf_new (fit_idem c)).2
  have hst := SInv.start c
  have hml := qFit_len c.qs
  have hqu := near_in (x := c.queue) (lo := 1) (hi := 16) (by omega)
  have hqc : (((fitM c).queue.toNat : Nat) : Int) = (fitM c).queue := Int.toNat_of_nonneg (by show 0 ≤ near c.queue 1 16; omega)
  refine VC.seq (VC.region ?_)
  refine VO.go (VO.makeSlice l.length rfl rfl rfl rfl rfl rfl rfl (by omega) (by show 1 * l.length ≤ _; omega) fun rb => VO.go (VO.nil ?_))
  have hz : (List.replicate l.length [Value.bool false]).flatten = bools (List.replicate l.length false) := by
    generalize l.length = n
    induction n with
    | zero => rfl
    | succ n ih => rw [List.replicate_succ, List.flatten_cons, ih, List.replicate_succ]; rfl
  (repeat (first | refine VC.seq ?_ | refine VC.region ?_ | refine VC.block ?_ | refine VC.label ?_ | refine VC.scope ?_ | refine VO.go (VO.nil ?_) | refine VO.go (VO.ld 0 rfl rfl rfl rfl ?_)))
  refine VC.loop (σ := Nat × AdmM × List Bool) (fun y => [(1, .slice la l.length lc), (2, .pointer (some ⟨cb, 0, none⟩)), (5, .pointer (some ⟨p, 0, none⟩)), (7, .slice (some ⟨rb, 0, none⟩) l.length l.length), (8, .int .i64 y.1)]) (fun y => [admH p y.2.1, pt rb (bools y.2.2) 4, pt cb ((fitM c).cells a cap) 24]) (fun y => y.1 ≤ 2 ∧ SInv (fitM c).clients (fitM c).qs.length (fitM c).queue.toNat y.2.1 ∧ RInv (fitM c).clients (fitM c).qs.length l y.2.2 y.2.1) (fun y => 2 - y.1) (0, newA (fitM c), List.replicate l.length false) ⟨Nat.zero_le _, hst, by simp, fun i x h1 h2 => by have := List.eq_of_mem_replicate (List.mem_of_getElem? h2); cases this⟩ (Sub.cons rfl (Sub.cons rfl (Sub.cons rfl (Sub.cons rfl (Sub.cons rfl (Sub.nil _)))))) ?_ ?_
  · dsimp only
    rw [← hz]
    refine (Imp.pick 1 rfl ?_).ent
    refine Imp.pick 0 rfl ?_
    exact Imp.tl
  rintro ⟨turn, A, ref⟩ ⟨hturn, hA, hR⟩
  dsimp only at hturn hA hR ⊢
  (repeat (first | refine VC.seq ?_ | refine VC.region ?_ | refine VC.block ?_ | refine VC.label ?_ | refine VC.scope ?_ | refine VO.go (VO.nil ?_) | refine VO.go (VO.ld 0 rfl rfl rfl rfl ?_)))
  refine VC.condP rfl (fun h2 => VC.skip ?_) (fun h2 => VC.exit ?_)
  rotate_left
  · (repeat (first | refine VC.seq ?_ | refine VC.region ?_ | refine VC.block ?_ | refine VC.label ?_ | refine VC.scope ?_ | refine VO.go (VO.nil ?_) | refine VO.go (VO.ld 0 rfl rfl rfl rfl ?_)))
    refine VO.go (VO.call (Lc := [admH p A]) (fun Fr w _ _ _ => flush_spec Fr w p A hA.calls) rfl rfl ?_)
    rintro _ _ ⟨r, hok, hgs, rfl, rfl⟩
    refine VO.go (VO.nil ?_)
    have hE := hA.expire 9223372036854775807
    have hbar := expire_bars hA.wf hA.calls 9223372036854775807
    have hlen0 := flushed hA
    have hgm : ∀ f ∈ A.sch.goneM 9223372036854775807, (A.expireM 9223372036854775807).may f = true := fun f hf => by
      rw [gone_all] at hf
      rw [may_congr (A := A) (hE.clients.trans hA.clients.symm) (hE.len.trans hA.len.symm)]
      exact hA.may f (List.mem_filter.1 hf).1
    have hrl : r.xs.length ≤ 64 := by
      have := congrArg List.length hgs
      have hfew := hA.wf.sch.fewG A.sch.cls.length 9223372036854775807
      rw [List.take_length] at hfew
      rw [List.length_map] at this
      rw [this]; exact hfew
    generalize A.expireM 9223372036854775807 = B at hE hbar hlen0 hgm ⊢
    (repeat (first | refine VC.seq ?_ | refine VC.region ?_ | refine VC.block ?_ | refine VC.label ?_ | refine VC.scope ?_ | refine VO.go (VO.nil ?_) | refine VO.go (VO.ld 0 rfl rfl rfl rfl ?_)))
    refine VC.loop (σ := Nat) (fun i => [(5, .pointer (some ⟨p, 0, none⟩)), (25, r.v), (26, .int .i64 i)]) (fun _ => [r.h 50, admH p B]) (fun i => i ≤ r.xs.length) (fun i => r.xs.length - i) 0 (Nat.zero_le _) (Sub.cons rfl (Sub.cons rfl (Sub.cons rfl (Sub.nil _)))) (Imp.app (L := [_, _]) (M := [_, _]) Imp.refl Imp.nil).ent ?_
    intro i hi
    (repeat (first | refine VC.seq ?_ | refine VC.region ?_ | refine VC.block ?_ | refine VC.label ?_ | refine VC.scope ?_ | refine VO.go (VO.nil ?_) | refine VO.go (VO.ld 0 rfl rfl rfl rfl ?_)))
    refine VC.condP rfl (fun h3 => VC.skip ?_) (fun h3 => VC.exit ?_)
    rotate_left
    · (repeat (first | refine VC.seq ?_ | refine VC.region ?_ | refine VC.block ?_ | refine VC.label ?_ | refine VC.scope ?_ | refine VO.go (VO.nil ?_) | refine VO.go (VO.ld 0 rfl rfl rfl rfl ?_)))
      refine VO.go (VO.callV' (u := .int .i64 0) (fun Fr w hF _ hs => by
        have := len_spec Fr w 0 (hs.at_ 1 rfl)
        rw [hlen0] at this
        exact this) rfl ?_)
      refine VO.go (VO.yes 254 true rfl rfl ?_)
      refine VO.go (VO.callV (fun Fr w => offered_spec Fr w) rfl (VO.go (VO.nil ?_)))
      exact VC.ret (Ret.bool 4 rfl rfl rfl Imp.nil.ent ⟨rfl, rfl⟩)
    have hi2 : i < r.xs.length := by have h3 : (i : Int) < r.xs.length := h3; omega
    obtain ⟨⟨f, m⟩, hx⟩ : ∃ x, r.xs[i]? = some x := ⟨_, List.getElem?_eq_getElem hi2⟩
    obtain ⟨bk, off, hbk, had, hrow⟩ := hok.nth hx
    have hg : (A.sch.goneM 9223372036854775807)[i]? = some f := by rw [← hgs, List.getElem?_map, hx]; rfl
    have hfm := List.mem_of_getElem? hg
    have hold := offer_old (hgm f hfm) (hbar f hfm) 0
    have hv' : some r.v = some (.slice (some ⟨bk, off, none⟩) r.xs.length r.cap) := by rw [RL.v, had]
    have hoff : ∀ (Fr : Nat → Prop) (w : World), Tri Try.prog 13 [.pointer (some ⟨p, 0, none⟩), .agg (fmc (f, m)).toArray, .int .i64 0] Fr w [admH p B] (fun v L => v = .int .i64 7 ∧ L = [admH p B]) := fun Fr w => by
      have := offer_spec Fr w p B (f, m) 0
      rw [hold] at this
      exact this
    refine VC.seq (VC.block ?_)
    refine VC.seq (VC.region ?_)
    refine VO.go (VO.light (light_idx i hv' rfl rfl rfl rfl rfl hi2) ?_)
    refine VO.go (VO.load rfl rfl (v := .agg (fmc (f, m)).toArray) (RdL.many 0 (t := 50) (cs := r.cells) (by rw [RL.h_pt hbk]; rfl) hrow) ?_)
    refine VO.go (VO.callAt 1 (ψ := fun v H => v = .int .i64 7 ∧ H = admH p B) rfl (fun Fr w _ _ _ => hoff Fr w) rfl (fun v L1 h => ⟨_, h.2, h.1, rfl⟩) ?_)
    rintro _ _ ⟨rfl, rfl⟩
    refine VO.go (VO.nil ?_)
    refine VC.condNE rfl (fun h => absurd rfl h) (fun _ => VC.skip ?_)
    (repeat (first | refine VC.seq ?_ | refine VC.region ?_ | refine VC.block ?_ | refine VC.label ?_ | refine VC.scope ?_ | refine VO.go (VO.nil ?_) | refine VO.go (VO.ld 0 rfl rfl rfl rfl ?_)))
    refine VO.go (VO.add rfl rfl (by omega) (by omega) ?_)
    (repeat (first | refine VC.seq ?_ | refine VC.region ?_ | refine VC.block ?_ | refine VC.label ?_ | refine VC.scope ?_ | refine VO.go (VO.nil ?_) | refine VO.go (VO.ld 0 rfl rfl rfl rfl ?_)))
    exact ⟨i + 1, hi2, by dsimp only; omega, (Sub.cons rfl (Sub.cons rfl (Sub.cons rfl (Sub.nil _)))), Ent.refl⟩
  (repeat (first | refine VC.seq ?_ | refine VC.region ?_ | refine VC.block ?_ | refine VC.label ?_ | refine VC.scope ?_ | refine VO.go (VO.nil ?_) | refine VO.go (VO.ld 0 rfl rfl rfl rfl ?_)))
  refine VC.loop (σ := Nat × AdmM × List Bool) (fun y => [(1, .slice la l.length lc), (2, .pointer (some ⟨cb, 0, none⟩)), (5, .pointer (some ⟨p, 0, none⟩)), (7, .slice (some ⟨rb, 0, none⟩) l.length l.length), (8, .int .i64 turn), (9, .int .i64 y.1)]) (fun y => [admH p y.2.1, pt rb (bools y.2.2) 4, pt cb ((fitM c).cells a cap) 24]) (fun y => y.1 ≤ l.length ∧ SInv (fitM c).clients (fitM c).qs.length (fitM c).queue.toNat y.2.1 ∧ RInv (fitM c).clients (fitM c).qs.length l y.2.2 y.2.1) (fun y => l.length - y.1) (0, A, ref) ⟨Nat.zero_le _, hA, hR⟩ (Sub.cons rfl (Sub.cons rfl (Sub.cons rfl (Sub.cons rfl (Sub.cons rfl (Sub.cons rfl (Sub.nil _))))))) Ent.refl ?_
  clear hA hR
  rintro ⟨i, A, ref⟩ ⟨hi, hA, hR⟩
  dsimp only at hi hA hR ⊢
  (repeat (first | refine VC.seq ?_ | refine VC.region ?_ | refine VC.block ?_ | refine VC.label ?_ | refine VC.scope ?_ | refine VO.go (VO.nil ?_) | refine VO.go (VO.ld 0 rfl rfl rfl rfl ?_)))
  refine VC.condP rfl (fun h3 => VC.skip ?_) (fun h3 => VC.exit ?_)
  rotate_left
  · (repeat (first | refine VC.seq ?_ | refine VC.region ?_ | refine VC.block ?_ | refine VC.label ?_ | refine VC.scope ?_ | refine VO.go (VO.nil ?_) | refine VO.go (VO.ld 0 rfl rfl rfl rfl ?_)))
    refine VO.go (VO.add rfl rfl (by omega) (by omega) ?_)
    (repeat (first | refine VC.seq ?_ | refine VC.region ?_ | refine VC.block ?_ | refine VC.label ?_ | refine VC.scope ?_ | refine VO.go (VO.nil ?_) | refine VO.go (VO.ld 0 rfl rfl rfl rfl ?_)))
    exact ⟨(turn + 1, A, ref), ⟨by dsimp only; omega, hA, hR⟩, by dsimp only; omega, (Sub.cons rfl (Sub.cons rfl (Sub.cons rfl (Sub.cons rfl (Sub.cons rfl (Sub.nil _)))))), Ent.refl⟩
  have hi2 : i < l.length := by omega
  obtain ⟨lb, lo, hla, hFl, hcell⟩ := hl.at_ (fun e => by rw [e] at hi2; simp at hi2)
  subst hla
  have hx := List.getElem?_eq_getElem hi2
  have hxb := hl.byte _ (List.getElem_mem hi2)
  generalize l[i] = x at hx hxb
  have hc := hcell i x hx
  have hmay : ∀ B : AdmM, SInv (fitM c).clients (fitM c).qs.length (fitM c).queue.toNat B → B.may (tryF (fitM c).clients (fitM c).qs.length x) = true := fun B hB => tryF_may hB.clients hB.len hml.1 hcl.1 hxb
  refine VC.seq (VC.block ?_)
  refine VC.seq (VC.region ?_)
  refine VO.go (VO.light (light_idx i rfl rfl rfl rfl rfl rfl hi2) ?_)
  refine VO.go (VO.load rfl rfl (RdL.rd (v := .agg x.cells.toArray) hFl ⟨x.cells, rfl, rfl, fun j v hv => hc j v hv⟩) ?_)
  refine VO.go (VO.alloc rfl fun xb => VO.go (VO.stA (vs := x.cells) (cs' := x.cells) 0 rfl rfl rfl rfl (Nat.le_refl _) rfl rfl rfl (VO.go (VO.nil ?_))))
  refine VC.meet (σ := Nat) (fun fb => [(1, .slice (some ⟨lb, lo, none⟩) l.length lc), (2, .pointer (some ⟨cb, 0, none⟩)), (5, .pointer (some ⟨p, 0, none⟩)), (7, .slice (some ⟨rb, 0, none⟩) l.length l.length), (8, .int .i64 turn), (9, .int .i64 i), (10, .pointer (some ⟨xb, 0, none⟩)), (11, .pointer (some ⟨fb, 0, none⟩))]) (fun fb => [pt fb (fmc (callM (x.client % (fitM c).clients) (1 + x.seq % 4) (1 + x.try_ % 3) x.deadline, (none, 0))) 50, pt xb x.cells 35, admH p A, pt rb (bools ref) 4, pt cb ((fitM c).cells a cap) 24]) (fun _ => True) ?_ ?_
  · refine VC.draw (ts 0 19 (.two 19 20 (.only 20 (.only 21 .nil)) (.only 19 (.only 21 .nil)))) (by kernel_rfl) (by decide +kernel) ?_
    refine VA.go (VA.ld 0 rfl rfl rfl rfl rfl ?_)
    refine VA.go (VA.light rfl (light_conv x.client rfl rfl rfl rfl rfl (i64_small hxb.client.1 hxb.client.2)) ?_)
    refine VA.go (VA.ld 3 rfl rfl rfl rfl rfl ?_)
    refine VA.go (VA.light rfl (light_rem rfl rfl hxb.client.1 (by omega)) ?_)
    refine VA.go (VA.ld 0 rfl rfl rfl rfl rfl ?_)
    refine VA.go (VA.light rfl (light_conv x.seq rfl rfl rfl rfl rfl (i64_small hxb.seq.1 hxb.seq.2)) ?_)
    refine VA.go (VA.light rfl (light_rem rfl rfl hxb.seq.1 (by omega)) ?_)
    refine VA.go (VA.add rfl rfl rfl (by omega) (by omega) ?_)
    refine VA.go (VA.ld 0 rfl rfl rfl rfl rfl ?_)
    refine VA.go (VA.light rfl (light_conv x.try_ rfl rfl rfl rfl rfl (i64_small hxb.try_.1 hxb.try_.2)) ?_)
    refine VA.go (VA.light rfl (light_rem rfl rfl hxb.try_.1 (by omega)) ?_)
    refine VA.go (VA.add rfl rfl rfl (by omega) (by omega) ?_)
    refine VA.go (VA.ld 0 rfl rfl rfl rfl rfl ?_)
    refine VA.go (VA.light rfl (light_conv x.deadline rfl rfl rfl rfl rfl (i64_small hxb.deadline.1 hxb.deadline.2)) ?_)
    refine VA.keepS (cond := fun L' => pt xb x.cells 35 ∈ L' ∧ pt cb ((fitM c).cells a cap) 24 ∈ L') (fun S hS => ?_) (fun L' hL' => ?_)
    rotate_left
    · obtain ⟨k1, hk1⟩ := List.getElem?_of_mem hL'.1
      obtain ⟨k2, hk2⟩ := List.getElem?_of_mem hL'.2
      exact (by (try refine Pd.st ?_); (repeat (first | exact Pd.nil | exact Pd.fnil | refine Pd.inner ?_ | refine Pd.skip (by decide +kernel) ?_ | refine Pd.fcons (RdL.blk (RdL.one k1 hk1 rfl) rfl) ?_ | refine Pd.fcons (RdL.blk (RdL.one k2 hk2 rfl) rfl) ?_ | refine Pd.fcons ((RdL.one k1 hk1 rfl)) ?_ | refine Pd.fcons ((RdL.one k2 hk2 rfl)) ?_ | refine Pd.cons (RdL.blk (RdL.one k1 hk1 rfl) rfl) ?_ | refine Pd.cons (RdL.blk (RdL.one k2 hk2 rfl) rfl) ?_ | refine Pd.cons ((RdL.one k1 hk1 rfl)) ?_ | refine Pd.cons ((RdL.one k2 hk2 rfl)) ?_)))
    have m1 : pt xb x.cells 35 ∈ [pt xb x.cells 35, admH p A, pt rb (bools ref) 4, pt cb ((fitM c).cells a cap) 24] ∧ pt cb ((fitM c).cells a cap) 24 ∈ [pt xb x.cells 35, admH p A, pt rb (bools ref) 4, pt cb ((fitM c).cells a cap) 24] := ⟨.head _, .tail _ (.tail _ (.tail _ (.head _)))⟩
    have m2 : ∀ {H : HP}, pt xb x.cells 35 ∈ H :: [pt xb x.cells 35, admH p A, pt rb (bools ref) 4, pt cb ((fitM c).cells a cap) 24] ∧ pt cb ((fitM c).cells a cap) 24 ∈ H :: [pt xb x.cells 35, admH p A, pt rb (bools ref) 4, pt cb ((fitM c).cells a cap) 24] := fun {H} => ⟨.tail _ m1.1, .tail _ m1.2⟩
    refine VA.go (VA.two rfl rfl rfl rfl rfl (OpT.callP (φ := fun v => v = .agg (fmc (callM (x.client % (fitM c).clients) (1 + x.seq % 4) (1 + x.try_ % 3) x.deadline, (none, 0))).toArray) (fun Fr w _ _ _ => call_spec Fr w _ _ _ _) rfl) rfl rfl rfl (OpT.alloc rfl) (fun v L' h => by obtain ⟨_, rfl⟩ := h; exact Pd.st (by (repeat refine Pd.filter ?_); exact hS _ m1)) (fun v L' h => by obtain ⟨d, _, rfl⟩ := h; exact Pd.st (by (repeat refine Pd.filter ?_); exact hS _ m2)) ?_ ?_)
    · rintro _ _ ⟨rfl, rfl⟩
      refine VA.go (VA.opP (OpT.alloc rfl) rfl (fun v L' h => by obtain ⟨d, _, rfl⟩ := h; exact (by (repeat refine Pd.filter ?_); exact hS _ m2)) ?_)
      rintro _ _ ⟨fb, rfl, rfl⟩
      refine VA.go (VA.stA (vs := fmc (callM (x.client % (fitM c).clients) (1 + x.seq % 4) (1 + x.try_ % 3) x.deadline, (none, 0))) (cs' := fmc (callM (x.client % (fitM c).clients) (1 + x.seq % 4) (1 + x.try_ % 3) x.deadline, (none, 0))) 0 rfl rfl rfl rfl rfl (Nat.le_refl _) rfl rfl rfl (by (repeat refine Pd.filter ?_); exact hS _ m2) (VA.go (VA.nil ?_)))
      exact ⟨fb, trivial, (Sub.cons rfl (Sub.cons rfl (Sub.cons rfl (Sub.cons rfl (Sub.cons rfl (Sub.cons rfl (Sub.cons rfl (Sub.cons rfl (Sub.nil _))))))))), Ent.refl⟩
    · rintro _ _ ⟨fb, rfl, rfl⟩
      refine VA.go (VA.opP (OpT.callP (φ := fun v => v = .agg (fmc (callM (x.client % (fitM c).clients) (1 + x.seq % 4) (1 + x.try_ % 3) x.deadline, (none, 0))).toArray) (fun Fr w _ _ _ => call_spec Fr w _ _ _ _) rfl) rfl (fun v L' h => by obtain ⟨_, rfl⟩ := h; exact (by (repeat refine Pd.filter ?_); exact hS _ m2)) ?_)
      rintro _ _ ⟨rfl, rfl⟩
      refine VA.go (VA.stA (vs := fmc (callM (x.client % (fitM c).clients) (1 + x.seq % 4) (1 + x.try_ % 3) x.deadline, (none, 0))) (cs' := fmc (callM (x.client % (fitM c).clients) (1 + x.seq % 4) (1 + x.try_ % 3) x.deadline, (none, 0))) 0 rfl rfl rfl rfl rfl (Nat.le_refl _) rfl rfl rfl (by (repeat refine Pd.filter ?_); exact hS _ m2) (VA.go (VA.nil ?_)))
      exact ⟨fb, trivial, (Sub.cons rfl (Sub.cons rfl (Sub.cons rfl (Sub.cons rfl (Sub.cons rfl (Sub.cons rfl (Sub.cons rfl (Sub.cons rfl (Sub.nil _))))))))), Ent.refl⟩
  intro fb _
  refine VC.seq (VC.region ?_)
  refine VO.go (VO.ld 1 rfl rfl rfl rfl ?_)
  refine VO.go (VO.light (light_conv x.cls rfl rfl rfl rfl rfl (i64_small hxb.cls.1 hxb.cls.2)) ?_)
  refine VO.go (VO.ld 4 rfl rfl rfl rfl ?_)
  refine VO.go (VO.light (light_rem rfl rfl hxb.cls.1 (by show (0 : Int) < ((qFit c.qs).length : Nat); omega)) ?_)
  refine VO.go (VO.st 0 rfl rfl rfl rfl (by show 5 < 29; omega) (cs' := fmc (tryF (fitM c).clients (fitM c).qs.length x, (none, 0))) rfl rfl (VO.go (VO.nil ?_)))
  have hmA := hmay A hA
  generalize hf : tryF (fitM c).clients (fitM c).qs.length x = f at hmA hmay ⊢
  refine VC.seq (VC.region ?_)
  refine VO.go (VO.ldA 0 (fmc (f, (none, 0))) rfl rfl rfl rfl ?_)
  refine VO.go (VO.ld 1 rfl rfl rfl rfl ?_)
  refine VO.go (VO.light (light_conv x.now rfl rfl rfl rfl rfl (i64_small hxb.now.1 hxb.now.2)) ?_)
  refine VO.go (VO.callAt 2 (ψ := fun v H => v = .int .i64 (A.offerM f x.now).1 ∧ H = admH p (A.offerM f x.now).2) rfl (fun Fr w _ _ _ => offer_spec Fr w p A (f, (none, 0)) x.now) rfl (fun v L1 h => ⟨_, h.2, h.1, rfl⟩) ?_)
  rintro _ _ ⟨rfl, rfl⟩
  refine VO.go (VO.nil ?_)
  have hB := hA.offer f x.now
  have hle := le_offer hA.wf f x.now
  have h10 := offer_10 hmA x.now
  have hold : ref[i]? = some true → (A.offerM f x.now).1 = 7 := fun h => by
    have := hR.2 i x hx h
    rw [hf] at this
    rw [offer_old hmA this]
  have hbar := offer_bars hA.wf hmA x.now
  have hin : (A.offerM f x.now).1 = 0 → (A.offerM f x.now).2.wt f.client = f.seq ∧ (A.offerM f x.now).2.barred f.client f.seq f.try_ = false := fun h0 => by
    obtain ⟨h1, h2, h3, h4, h5, h6⟩ := offer_in h0
    have hr := (has_iff _ _).1 (may_client h1).1
    have hr6 : 0 ≤ f.client ∧ f.client < 6 := ⟨hr.1, by have := hA.wf.c1; omega⟩
    rw [h6]
    refine ⟨by rw [wt_setWt (hA.wf.withSch (push_wf hA.wf.sch f)) hr6 hr.1, if_pos rfl], ?_⟩
    exact h2
  have hRB := hR.le hle
  have hmB := hmay _ hB
  generalize hr : (A.offerM f x.now).1 = r at h10 hold hbar hin ⊢
  generalize (A.offerM f x.now).2 = B at hB hle hbar hin hRB hmB ⊢
  obtain ⟨hhas, hnum, hnum2⟩ := may_client hmB
  have hseq : f.seq ≠ 0 := by simp only [numM, Bool.and_eq_true, decide_eq_true_eq] at hnum; omega
  have hri : i < ref.length := by rw [hR.1]; exact hi2
  have hrx := List.getElem?_eq_getElem hri
  generalize ref[i] = rx at hrx
  refine VC.meet (σ := Unit) (fun _ => [(1, .slice (some ⟨lb, lo, none⟩) l.length lc), (2, .pointer (some ⟨cb, 0, none⟩)), (5, .pointer (some ⟨p, 0, none⟩)), (7, .slice (some ⟨rb, 0, none⟩) l.length l.length), (8, .int .i64 turn), (9, .int .i64 i), (10, .pointer (some ⟨xb, 0, none⟩)), (11, .pointer (some ⟨fb, 0, none⟩)), (12, .int .i64 r)]) (fun _ => [pt fb (fmc (f, (none, 0))) 50, pt xb x.cells 35, admH p B, pt rb (bools ref) 4, pt cb ((fitM c).cells a cap) 24]) (fun _ => True) ?_ ?_
  · refine VC.seq (VC.region ?_)
    refine VO.go (VO.light (light_idx i rfl rfl rfl rfl rfl rfl hi2) ?_)
    refine VO.go (VO.ld 3 rfl rfl rfl (bools_at hrx) ?_)
    refine VO.go (VO.split 101 rfl rfl (fun h4 => ?_) (fun h4 => ?_))
    · subst h4
      have h7 := hold hrx
      refine VO.go (VO.yes 105 false rfl (by rw [h7]; rfl) (VO.go (VO.nil ?_)))
      exact VC.condE rfl (fun h => absurd h h10) (fun _ => VC.skip ⟨(), trivial, (Sub.cons rfl (Sub.cons rfl (Sub.cons rfl (Sub.cons rfl (Sub.cons rfl (Sub.cons rfl (Sub.cons rfl (Sub.cons rfl (Sub.cons rfl (Sub.nil _)))))))))), Ent.refl⟩)
    · subst h4
      refine VO.go (VO.yes 105 false rfl rfl (VO.go (VO.nil ?_)))
      exact VC.condE rfl (fun h => absurd h h10) (fun _ => VC.skip ⟨(), trivial, (Sub.cons rfl (Sub.cons rfl (Sub.cons rfl (Sub.cons rfl (Sub.cons rfl (Sub.cons rfl (Sub.cons rfl (Sub.cons rfl (Sub.cons rfl (Sub.nil _)))))))))), Ent.refl⟩)
  intro _ _
  refine VC.meet (σ := List Bool) (fun _ => [(1, .slice (some ⟨lb, lo, none⟩) l.length lc), (2, .pointer (some ⟨cb, 0, none⟩)), (5, .pointer (some ⟨p, 0, none⟩)), (7, .slice (some ⟨rb, 0, none⟩) l.length l.length), (8, .int .i64 turn), (9, .int .i64 i), (10, .pointer (some ⟨xb, 0, none⟩)), (11, .pointer (some ⟨fb, 0, none⟩)), (12, .int .i64 r)]) (fun ref => [pt fb (fmc (f, (none, 0))) 50, pt xb x.cells 35, admH p B, pt rb (bools ref) 4, pt cb ((fitM c).cells a cap) 24]) (fun ref => RInv (fitM c).clients (fitM c).qs.length l ref B) ?_ ?_
  · (repeat (first | refine VC.seq ?_ | refine VC.region ?_ | refine VC.block ?_ | refine VC.label ?_ | refine VC.scope ?_ | refine VO.go (VO.nil ?_) | refine VO.go (VO.ld 0 rfl rfl rfl rfl ?_)))
    refine VO.go (VO.split 111 rfl rfl (fun h4 => ?_) (fun h4 => VO.go (VO.nil (VC.condF rfl (VC.skip ⟨ref, hRB, (Sub.cons rfl (Sub.cons rfl (Sub.cons rfl (Sub.cons rfl (Sub.cons rfl (Sub.cons rfl (Sub.cons rfl (Sub.cons rfl (Sub.cons rfl (Sub.nil _)))))))))), Ent.refl⟩)))))
    have h4 : r ≠ 0 := by simpa using h4
    refine VO.go (VO.nil (VC.condNE rfl (fun h5 => ?_) (fun _ => VC.skip ⟨ref, hRB, (Sub.cons rfl (Sub.cons rfl (Sub.cons rfl (Sub.cons rfl (Sub.cons rfl (Sub.cons rfl (Sub.cons rfl (Sub.cons rfl (Sub.cons rfl (Sub.nil _)))))))))), Ent.refl⟩)))
    have hb := hbar h4 h5
    (repeat (first | refine VC.seq ?_ | refine VC.region ?_ | refine VC.block ?_ | refine VC.label ?_ | refine VC.scope ?_ | refine VO.go (VO.nil ?_) | refine VO.go (VO.ld 0 rfl rfl rfl rfl ?_)))
    refine VO.go (VO.light (light_idx i rfl rfl rfl rfl rfl rfl hi2) ?_)
    refine VO.go (VO.st 3 rfl rfl rfl rfl (by show 0 + i * 1 < _; simp [bools]; omega) (bools_set ref i true) rfl (VO.go (VO.nil ?_)))
    (repeat (first | refine VC.seq ?_ | refine VC.region ?_ | refine VC.block ?_ | refine VC.label ?_ | refine VC.scope ?_ | refine VO.go (VO.nil ?_) | refine VO.go (VO.ld 0 rfl rfl rfl rfl ?_)))
    refine VO.go (VO.callV' (u := .bool true) (fun Fr w hF _ hs => by
      have := barred_spec Fr w f.client f.seq f.try_ (hs.at_ 2 rfl)
      rw [hb] at this
      exact this) rfl (VO.go (VO.nil ?_)))
    refine VC.condF rfl (VC.skip ⟨ref.set i true, ⟨by simpa using hRB.1, fun j y hy hj => ?_⟩, (Sub.cons rfl (Sub.cons rfl (Sub.cons rfl (Sub.cons rfl (Sub.cons rfl (Sub.cons rfl (Sub.cons rfl (Sub.cons rfl (Sub.cons rfl (Sub.nil _)))))))))), Ent.refl⟩)
    by_cases hij : i = j
    · subst hij
      rw [hx] at hy
      cases hy
      rw [hf]; exact hb
    · rw [List.getElem?_set_ne hij] at hj
      exact hRB.2 j y hy hj
  clear hrx hri hold hR hRB
  rintro ref hR
  refine VC.meet (σ := Unit) (fun _ => [(1, .slice (some ⟨lb, lo, none⟩) l.length lc), (2, .pointer (some ⟨cb, 0, none⟩)), (5, .pointer (some ⟨p, 0, none⟩)), (7, .slice (some ⟨rb, 0, none⟩) l.length l.length), (8, .int .i64 turn), (9, .int .i64 i), (10, .pointer (some ⟨xb, 0, none⟩))]) (fun _ => [pt xb x.cells 35, admH p B, pt rb (bools ref) 4, pt cb ((fitM c).cells a cap) 24]) (fun _ => True) ?_ ?_
  · (repeat (first | refine VC.seq ?_ | refine VC.region ?_ | refine VC.block ?_ | refine VC.label ?_ | refine VC.scope ?_ | refine VO.go (VO.nil ?_) | refine VO.go (VO.ld 0 rfl rfl rfl rfl ?_)))
    refine VC.condE rfl (fun h4 => ?_) (fun _ => VC.skip ⟨(), trivial, (Sub.cons rfl (Sub.cons rfl (Sub.cons rfl (Sub.cons rfl (Sub.cons rfl (Sub.cons rfl (Sub.cons rfl (Sub.nil _)))))))), Imp.tl.ent⟩)
    obtain ⟨hw1, hw2⟩ := hin h4
    have hwm : B.waitsM f.client = (f.seq, true) := by
      unfold AdmM.waitsM
      rw [if_pos hhas, hw1]
      simp [hseq]
    (repeat (first | refine VC.seq ?_ | refine VC.region ?_ | refine VC.block ?_ | refine VC.label ?_ | refine VC.scope ?_ | refine VO.go (VO.nil ?_) | refine VO.go (VO.ld 0 rfl rfl rfl rfl ?_)))
    refine VO.go (VO.callV' (u := .tuple #[.int .i64 f.seq, .bool true]) (fun Fr w hF _ hs => by
      have := waits_spec Fr w f.client (hs.at_ 2 rfl)
      rw [hwm] at this
      exact this) rfl (VO.go (VO.nil ?_)))
    (repeat (first | refine VC.seq ?_ | refine VC.region ?_ | refine VC.block ?_ | refine VC.label ?_ | refine VC.scope ?_ | refine VO.go (VO.nil ?_) | refine VO.go (VO.ld 0 rfl rfl rfl rfl ?_)))
    refine VO.go (VO.yes 140 false rfl (by simp) (VO.go (VO.yes 144 false rfl rfl ?_)))
    (repeat (first | refine VC.seq ?_ | refine VC.region ?_ | refine VC.block ?_ | refine VC.label ?_ | refine VC.scope ?_ | refine VO.go (VO.nil ?_) | refine VO.go (VO.ld 0 rfl rfl rfl rfl ?_)))
    refine VO.go (VO.callV' (u := .bool false) (fun Fr w hF _ hs => by
      have := barred_spec Fr w f.client f.seq f.try_ (hs.at_ 2 rfl)
      rw [hw2] at this
      exact this) rfl (VO.go (VO.nil ?_)))
    exact VC.condF rfl (VC.skip ⟨(), trivial, (Sub.cons rfl (Sub.cons rfl (Sub.cons rfl (Sub.cons rfl (Sub.cons rfl (Sub.cons rfl (Sub.cons rfl (Sub.nil _)))))))), Imp.tl.ent⟩)
  intro _ _
  refine VC.meet (σ := AdmM) (fun _ => [(1, .slice (some ⟨lb, lo, none⟩) l.length lc), (2, .pointer (some ⟨cb, 0, none⟩)), (5, .pointer (some ⟨p, 0, none⟩)), (7, .slice (some ⟨rb, 0, none⟩) l.length l.length), (8, .int .i64 turn), (9, .int .i64 i)]) (fun D => [admH p D, pt rb (bools ref) 4, pt cb ((fitM c).cells a cap) 24]) (fun D => SInv (fitM c).clients (fitM c).qs.length (fitM c).queue.toNat D ∧ RInv (fitM c).clients (fitM c).qs.length l ref D) ?_ ?_
  · (repeat (first | refine VC.seq ?_ | refine VC.region ?_ | refine VC.block ?_ | refine VC.label ?_ | refine VC.scope ?_ | refine VO.go (VO.nil ?_) | refine VO.go (VO.ld 0 rfl rfl rfl rfl ?_)))
    refine VC.cond rfl (fun h4 => ?_) (fun _ => VC.skip ⟨B, ⟨hB, hR⟩, (Sub.cons rfl (Sub.cons rfl (Sub.cons rfl (Sub.cons rfl (Sub.cons rfl (Sub.cons rfl (Sub.nil _))))))), Imp.tl.ent⟩)
    (repeat (first | refine VC.seq ?_ | refine VC.region ?_ | refine VC.block ?_ | refine VC.label ?_ | refine VC.scope ?_ | refine VO.go (VO.nil ?_) | refine VO.go (VO.ld 0 rfl rfl rfl rfl ?_)))
    refine VO.go (VO.light (light_conv x.now rfl rfl rfl rfl rfl (i64_small hxb.now.1 hxb.now.2)) ?_)
    refine VO.ent (L' := [admH p B, pt xb x.cells 35, pt rb (bools ref) 4, pt cb ((fitM c).cells a cap) 24]) (Imp.perm (List.Perm.swap _ _ _)).ent ?_
    refine VO.go (VO.call (Lc := [admH p B]) (fun Fr w _ _ _ => next_spec Fr w p B x.now hB.wf hB.calls) rfl rfl ?_)
    rintro _ _ ⟨rr, m, hok, hgs, rfl, rfl⟩
    refine VO.go (VO.alloc rfl fun b15 => VO.go (VO.stA (vs := fmc ((popV (B.expireM x.now).sch).1, m)) (cs' := fmc ((popV (B.expireM x.now).sch).1, m)) 0 rfl rfl rfl rfl (Nat.le_refl _) rfl rfl rfl (VO.go (VO.nil ?_))))
    have hD := hB.next x.now
    have hleD := le_next hB.wf hB.calls x.now
    have hbars : ∀ g ∈ B.sch.goneM x.now, (B.nextM x.now).barred g.client g.seq g.try_ = true := fun g hg => (le_next' B x.now).marks _ _ _ (expire_bars hB.wf hB.calls x.now g hg)
    have hrl : rr.xs.length ≤ 64 := by
      have := congrArg List.length hgs
      have hfew := hB.wf.sch.fewG B.sch.cls.length x.now
      rw [List.take_length] at hfew
      rw [List.length_map] at this
      rw [this]; exact hfew
    generalize B.nextM x.now = D at hD hleD hbars ⊢
    (repeat (first | refine VC.seq ?_ | refine VC.region ?_ | refine VC.block ?_ | refine VC.label ?_ | refine VC.scope ?_ | refine VO.go (VO.nil ?_) | refine VO.go (VO.ld 0 rfl rfl rfl rfl ?_)))
    refine VC.loop (σ := Nat) (fun k => [(1, .slice (some ⟨lb, lo, none⟩) l.length lc), (2, .pointer (some ⟨cb, 0, none⟩)), (5, .pointer (some ⟨p, 0, none⟩)), (7, .slice (some ⟨rb, 0, none⟩) l.length l.length), (8, .int .i64 turn), (9, .int .i64 i), (10, .pointer (some ⟨xb, 0, none⟩)), (17, rr.v), (18, .int .i64 k)]) (fun _ => [rr.h 50, admH p D, pt xb x.cells 35, pt rb (bools ref) 4, pt cb ((fitM c).cells a cap) 24]) (fun k => k ≤ rr.xs.length) (fun k => rr.xs.length - k) 0 (Nat.zero_le _) (Sub.cons rfl (Sub.cons rfl (Sub.cons rfl (Sub.cons rfl (Sub.cons rfl (Sub.cons rfl (Sub.cons rfl (Sub.cons rfl (Sub.cons rfl (Sub.nil _)))))))))) Imp.tl.ent ?_
    intro k hk
    (repeat (first | refine VC.seq ?_ | refine VC.region ?_ | refine VC.block ?_ | refine VC.label ?_ | refine VC.scope ?_ | refine VO.go (VO.nil ?_) | refine VO.go (VO.ld 0 rfl rfl rfl rfl ?_)))
    refine VC.condP rfl (fun h5 => VC.skip ?_) (fun h5 => VC.exit ⟨D, ⟨hD, hR.le hleD⟩, (Sub.cons rfl (Sub.cons rfl (Sub.cons rfl (Sub.cons rfl (Sub.cons rfl (Sub.cons rfl (Sub.nil _))))))), ?_⟩)
    rotate_left
    · refine (Imp.pick 1 rfl ?_).ent
      exact Imp.trans Imp.tl Imp.tl
    have hk2 : k < rr.xs.length := by have h5 : (k : Int) < rr.xs.length := h5; omega
    obtain ⟨⟨g, gm⟩, hgx⟩ : ∃ y, rr.xs[k]? = some y := ⟨_, List.getElem?_eq_getElem hk2⟩
    obtain ⟨bk, off, hbk, had, hrow⟩ := hok.nth hgx
    have hg : (B.sch.goneM x.now)[k]? = some g := by rw [← hgs, List.getElem?_map, hgx]; rfl
    have hgm := List.mem_of_getElem? hg
    have hgd : g.deadline < x.now := by
      rw [gone_all] at hgm
      have := (List.mem_filter.1 hgm).2
      simpa [gone] using this
    have hgb := hbars g hgm
    have hv' : some rr.v = some (.slice (some ⟨bk, off, none⟩) rr.xs.length rr.cap) := by rw [RL.v, had]
    have hcl2 : ∀ {j : Nat} {v : Value}, j < 29 → (fmc (g, gm))[j]? = some v → rr.cells[off + k * 29 + j]? = some v := fun {j v} hj h => by
      rw [← hrow, List.getElem?_take, if_pos hj, List.getElem?_drop] at h
      exact h
    rw [RL.h_pt hbk]
    refine VC.seq (VC.block ?_)
    refine VC.seq (VC.draw (ts 0 26 (.only 26 (ts 27 2 .nil))) (by kernel_rfl) (by decide +kernel) ?_)
    refine VA.go (VA.light rfl (light_idx k hv' rfl rfl rfl rfl rfl hk2) ?_)
    refine VA.go (VA.ld 0 rfl rfl rfl rfl (hcl2 (j := 6) (by omega) rfl) ?_)
    refine VA.go (VA.ld 2 rfl rfl rfl rfl rfl ?_)
    refine VA.go (VA.light rfl (light_conv x.now rfl rfl rfl rfl rfl (i64_small hxb.now.1 hxb.now.2)) ?_)
    refine VA.go (VA.yes 180 false rfl (decide_eq_false (by show ¬ x.now ≤ g.deadline; omega)) ?_)
    refine VA.go (VA.light rfl (light_idx k hv' rfl rfl rfl rfl rfl hk2) ?_)
    refine VA.go (VA.ld 0 rfl rfl rfl rfl (hcl2 (j := 2) (by omega) rfl) ?_)
    refine VA.go (VA.light rfl (light_idx k hv' rfl rfl rfl rfl rfl hk2) ?_)
    refine VA.go (VA.ld 0 rfl rfl rfl rfl (hcl2 (j := 3) (by omega) rfl) ?_)
    refine VA.go (VA.light rfl (light_idx k hv' rfl rfl rfl rfl rfl hk2) ?_)
    refine VA.go (VA.ld 0 rfl rfl rfl rfl (hcl2 (j := 4) (by omega) rfl) ?_)
    refine VA.go (VA.callP (φ := fun v => v = .bool true) (fun Fr w hF _ hs => by
      have := barred_spec Fr w g.client g.seq g.try_ (hs.at_ 1 rfl)
      rw [hgb] at this
      exact this) rfl rfl (by (try refine Pd.st ?_); (repeat (first | exact Pd.nil | exact Pd.fnil | refine Pd.inner ?_ | refine Pd.skip (by decide +kernel) ?_ | refine Pd.fcons (RdL.one 0 rfl rfl) ?_ | refine Pd.fcons (RdL.one 1 rfl rfl) ?_ | refine Pd.fcons (RdL.one 2 rfl rfl) ?_ | refine Pd.fcons (RdL.many 0 rfl rfl) ?_ | refine Pd.fcons (RdL.many 1 rfl rfl) ?_ | refine Pd.fcons (RdL.many 2 rfl rfl) ?_ | refine Pd.fcons (RdL.blk (RdL.one 0 rfl (hcl2 (j := 6) (by omega) rfl)) rfl) ?_ | refine Pd.fcons (RdL.blk (RdL.one 0 rfl (hcl2 (j := 2) (by omega) rfl)) rfl) ?_ | refine Pd.fcons (RdL.blk (RdL.one 0 rfl (hcl2 (j := 3) (by omega) rfl)) rfl) ?_ | refine Pd.fcons (RdL.blk (RdL.one 0 rfl (hcl2 (j := 4) (by omega) rfl)) rfl) ?_ | refine Pd.fcons ((RdL.one 0 rfl (hcl2 (j := 6) (by omega) rfl))) ?_ | refine Pd.fcons ((RdL.one 0 rfl (hcl2 (j := 2) (by omega) rfl))) ?_ | refine Pd.fcons ((RdL.one 0 rfl (hcl2 (j := 3) (by omega) rfl))) ?_ | refine Pd.fcons ((RdL.one 0 rfl (hcl2 (j := 4) (by omega) rfl))) ?_ | refine Pd.cons (RdL.one 0 rfl rfl) ?_ | refine Pd.cons (RdL.one 1 rfl rfl) ?_ | refine Pd.cons (RdL.one 2 rfl rfl) ?_ | refine Pd.cons (RdL.many 0 rfl rfl) ?_ | refine Pd.cons (RdL.many 1 rfl rfl) ?_ | refine Pd.cons (RdL.many 2 rfl rfl) ?_ | refine Pd.cons (RdL.blk (RdL.one 0 rfl (hcl2 (j := 6) (by omega) rfl)) rfl) ?_ | refine Pd.cons (RdL.blk (RdL.one 0 rfl (hcl2 (j := 2) (by omega) rfl)) rfl) ?_ | refine Pd.cons (RdL.blk (RdL.one 0 rfl (hcl2 (j := 3) (by omega) rfl)) rfl) ?_ | refine Pd.cons (RdL.blk (RdL.one 0 rfl (hcl2 (j := 4) (by omega) rfl)) rfl) ?_ | refine Pd.cons ((RdL.one 0 rfl (hcl2 (j := 6) (by omega) rfl))) ?_ | refine Pd.cons ((RdL.one 0 rfl (hcl2 (j := 2) (by omega) rfl))) ?_ | refine Pd.cons ((RdL.one 0 rfl (hcl2 (j := 3) (by omega) rfl))) ?_ | refine Pd.cons ((RdL.one 0 rfl (hcl2 (j := 4) (by omega) rfl))) ?_))) ?_)
    rintro _ rfl
    (repeat (first | refine VA.go (VA.nil ?_) | refine VA.go (VA.ld 0 rfl rfl rfl rfl rfl ?_)))
    refine VC.condF rfl (VC.skip ?_)
    (repeat (first | refine VC.seq ?_ | refine VC.region ?_ | refine VC.block ?_ | refine VC.label ?_ | refine VC.scope ?_ | refine VO.go (VO.nil ?_) | refine VO.go (VO.ld 0 rfl rfl rfl rfl ?_)))
    refine VO.go (VO.add rfl rfl (by omega) (by omega) ?_)
    (repeat (first | refine VC.seq ?_ | refine VC.region ?_ | refine VC.block ?_ | refine VC.label ?_ | refine VC.scope ?_ | refine VO.go (VO.nil ?_) | refine VO.go (VO.ld 0 rfl rfl rfl rfl ?_)))
    refine ⟨k + 1, hk2, by dsimp only; omega, (Sub.cons rfl (Sub.cons rfl (Sub.cons rfl (Sub.cons rfl (Sub.cons rfl (Sub.cons rfl (Sub.cons rfl (Sub.cons rfl (Sub.cons rfl (Sub.nil _)))))))))), ?_⟩
    exact Ent.refl
  clear hB hmB hbar hin hle hR
  rintro D ⟨hD, hR⟩
  refine VC.seq (VC.region (VO.go (VO.nil ?_)))
  refine VC.meet (σ := Unit) (fun _ => [(1, .slice (some ⟨lb, lo, none⟩) l.length lc), (2, .pointer (some ⟨cb, 0, none⟩)), (5, .pointer (some ⟨p, 0, none⟩)), (7, .slice (some ⟨rb, 0, none⟩) l.length l.length), (8, .int .i64 turn), (9, .int .i64 i), (19, .int .i64 D.all.length), (20, .int .i64 0)]) (fun _ => [admH p D, pt rb (bools ref) 4, pt cb ((fitM c).cells a cap) 24]) (fun _ => True) ?_ ?_
  · (repeat (first | refine VC.seq ?_ | refine VC.region ?_ | refine VC.block ?_ | refine VC.label ?_ | refine VC.scope ?_ | refine VO.go (VO.nil ?_) | refine VO.go (VO.ld 0 rfl rfl rfl rfl ?_)))
    refine VC.loop (σ := Nat) (fun k => [(1, .slice (some ⟨lb, lo, none⟩) l.length lc), (2, .pointer (some ⟨cb, 0, none⟩)), (5, .pointer (some ⟨p, 0, none⟩)), (7, .slice (some ⟨rb, 0, none⟩) l.length l.length), (8, .int .i64 turn), (9, .int .i64 i), (19, .int .i64 ((D.sch.qs.take k).flatten.length : Nat)), (20, .int .i64 0), (21, .int .i64 k)]) (fun _ => [admH p D, pt rb (bools ref) 4, pt cb ((fitM c).cells a cap) 24]) (fun k => k ≤ (fitM c).qs.length) (fun k => 4 - k) 0 (Nat.zero_le _) (Sub.cons rfl (Sub.cons rfl (Sub.cons rfl (Sub.cons rfl (Sub.cons rfl (Sub.cons rfl (Sub.cons rfl (Sub.cons rfl (Sub.cons rfl (Sub.nil _)))))))))) Ent.refl ?_
    intro k hk
    have hml2 : (fitM c).qs.length ≤ 4 := hml.2
    (repeat (first | refine VC.seq ?_ | refine VC.region ?_ | refine VC.block ?_ | refine VC.label ?_ | refine VC.scope ?_ | refine VO.go (VO.nil ?_) | refine VO.go (VO.ld 0 rfl rfl rfl rfl ?_) | refine VO.go (VO.ld 1 rfl rfl rfl rfl ?_) | refine VO.go (VO.ld 2 rfl rfl rfl rfl ?_)))
    refine VC.condP rfl (fun h5 => VC.skip ?_) (fun h5 => VC.exit ?_)
    rotate_left
    · have hke : k = (fitM c).qs.length := by omega
      have e : (D.sch.qs.take k).flatten.length = D.all.length := by
        rw [List.take_of_length_le (by rw [hke]; simp [SchM.qs, hD.len])]; rfl
      rw [e]
      exact ⟨(), trivial, (Sub.cons rfl (Sub.cons rfl (Sub.cons rfl (Sub.cons rfl (Sub.cons rfl (Sub.cons rfl (Sub.cons rfl (Sub.cons rfl (Sub.nil _))))))))), Ent.refl⟩
    have hk2 : k < (fitM c).qs.length := by omega
    obtain ⟨q, hq1, hq2, hq3⟩ := len_le hD hk2
    have hlen : ∀ (Fr : Nat → Prop) (w : World), SatIn Fr [admH p D] w → Tri Try.prog 17 [.pointer (some ⟨p, 0, none⟩), .int .i64 k] Fr w [] (fun v L => v = .int .i64 q.length ∧ L = []) := fun Fr w hs => by
      have := len_spec Fr w k hs
      rw [hq2] at this
      exact this
    have hcap16 : q.length ≤ 16 := by have := hD.cap; have := hD.wf.sch.cap1; omega
    have hsum : (D.sch.qs.take (k + 1)).flatten.length = (D.sch.qs.take k).flatten.length + q.length := by
      rw [List.take_add_one, hq1, List.flatten_append, List.length_append]; simp
    have hsm : (D.sch.qs.take k).flatten.length ≤ 64 := by
      have := hD.wf.sch.few k
      rw [SchM.qs, ← List.map_take, ← List.flatMap_def]
      exact this
    refine VC.seq (VC.block ?_)
    refine VC.seq (VC.seq (VC.draw (ts 0 2 (ts 3 2 (.only 2 (.take 5 .nil)))) (by kernel_rfl) (by decide +kernel) ?_))
    (repeat (first | refine VA.go (VA.nil ?_) | refine VA.go (VA.ld 0 rfl rfl rfl rfl rfl ?_) | refine VA.go (VA.ld 1 rfl rfl rfl rfl rfl ?_) | refine VA.go (VA.ld 2 rfl rfl rfl rfl rfl ?_)))
    refine VA.go (VA.callP (φ := fun v => v = .int .i64 q.length) (fun Fr w hF _ hs => hlen Fr w (hs.at_ 0 rfl)) rfl rfl (by (try refine Pd.st ?_); (repeat (first | exact Pd.nil | exact Pd.fnil | refine Pd.inner ?_ | refine Pd.skip (by decide +kernel) ?_ | refine Pd.fcons (RdL.one 0 rfl rfl) ?_ | refine Pd.fcons (RdL.one 1 rfl rfl) ?_ | refine Pd.fcons (RdL.one 2 rfl rfl) ?_ | refine Pd.fcons (RdL.many 0 rfl rfl) ?_ | refine Pd.fcons (RdL.many 1 rfl rfl) ?_ | refine Pd.fcons (RdL.many 2 rfl rfl) ?_ | refine Pd.cons (RdL.one 0 rfl rfl) ?_ | refine Pd.cons (RdL.one 1 rfl rfl) ?_ | refine Pd.cons (RdL.one 2 rfl rfl) ?_ | refine Pd.cons (RdL.many 0 rfl rfl) ?_ | refine Pd.cons (RdL.many 1 rfl rfl) ?_ | refine Pd.cons (RdL.many 2 rfl rfl) ?_))) ?_)
    rintro _ rfl
    (repeat (first | refine VA.go (VA.nil ?_) | refine VA.go (VA.ld 0 rfl rfl rfl rfl rfl ?_)))
    refine VC.condP rfl (fun h => ?_) (fun _ => VC.skip ?_)
    · have h : (fitM c).queue < (q.length : Int) := h
      omega
    (repeat (first | refine VC.seq ?_ | refine VC.region ?_ | refine VC.block ?_ | refine VC.label ?_ | refine VC.scope ?_ | refine VO.go (VO.nil ?_) | refine VO.go (VO.ld 0 rfl rfl rfl rfl ?_)))
    refine VO.go (VO.callV' (fun Fr w hF _ hs => hlen Fr w (hs.at_ 0 rfl)) rfl ?_)
    refine VO.go (VO.add rfl rfl (by omega) (by omega) ?_)
    (repeat (first | refine VC.seq ?_ | refine VC.region ?_ | refine VC.block ?_ | refine VC.label ?_ | refine VC.scope ?_ | refine VO.go (VO.nil ?_) | refine VO.go (VO.ld 0 rfl rfl rfl rfl ?_)))
    refine VO.go (VO.add rfl rfl (by omega) (by omega) ?_)
    (repeat (first | refine VC.seq ?_ | refine VC.region ?_ | refine VC.block ?_ | refine VC.label ?_ | refine VC.scope ?_ | refine VO.go (VO.nil ?_) | refine VO.go (VO.ld 0 rfl rfl rfl rfl ?_)))
    exact ⟨k + 1, hk2, by dsimp only; omega, (Sub.cons rfl (Sub.cons rfl (Sub.cons rfl (Sub.cons rfl (Sub.cons rfl (Sub.cons rfl (Sub.int rfl (by rw [hsum]; push_cast; rfl) (Sub.cons rfl (Sub.cons rfl (Sub.nil _)))))))))), Ent.refl⟩
  intro _ _
  have hcnt := hD.count
  have h6 := hD.six
  refine VC.meet (σ := Unit) (fun _ => [(1, .slice (some ⟨lb, lo, none⟩) l.length lc), (2, .pointer (some ⟨cb, 0, none⟩)), (5, .pointer (some ⟨p, 0, none⟩)), (7, .slice (some ⟨rb, 0, none⟩) l.length l.length), (8, .int .i64 turn), (9, .int .i64 i), (19, .int .i64 D.all.length), (20, .int .i64 (D.cnt (fitM c).clients.toNat))]) (fun _ => [admH p D, pt rb (bools ref) 4, pt cb ((fitM c).cells a cap) 24]) (fun _ => True) ?_ ?_
  · (repeat (first | refine VC.seq ?_ | refine VC.region ?_ | refine VC.block ?_ | refine VC.label ?_ | refine VC.scope ?_ | refine VO.go (VO.nil ?_) | refine VO.go (VO.ld 0 rfl rfl rfl rfl ?_)))
    refine VC.loop (σ := Nat) (fun k => [(1, .slice (some ⟨lb, lo, none⟩) l.length lc), (2, .pointer (some ⟨cb, 0, none⟩)), (5, .pointer (some ⟨p, 0, none⟩)), (7, .slice (some ⟨rb, 0, none⟩) l.length l.length), (8, .int .i64 turn), (9, .int .i64 i), (19, .int .i64 D.all.length), (20, .int .i64 (D.cnt k)), (22, .int .i64 k)]) (fun _ => [admH p D, pt rb (bools ref) 4, pt cb ((fitM c).cells a cap) 24]) (fun k => (k : Int) ≤ (fitM c).clients) (fun k => 6 - k) 0 (by show ((0 : Nat) : Int) ≤ _; omega) (Sub.cons rfl (Sub.cons rfl (Sub.cons rfl (Sub.cons rfl (Sub.cons rfl (Sub.cons rfl (Sub.cons rfl (Sub.cons rfl (Sub.cons rfl (Sub.nil _)))))))))) Ent.refl ?_
    intro k hk
    (repeat (first | refine VC.seq ?_ | refine VC.region ?_ | refine VC.block ?_ | refine VC.label ?_ | refine VC.scope ?_ | refine VO.go (VO.nil ?_) | refine VO.go (VO.ld 0 rfl rfl rfl rfl ?_) | refine VO.go (VO.ld 1 rfl rfl rfl rfl ?_) | refine VO.go (VO.ld 2 rfl rfl rfl rfl ?_)))
    refine VC.condP rfl (fun h5 => VC.skip ?_) (fun h5 => VC.exit ?_)
    rotate_left
    · have hke : (fitM c).clients.toNat = k := by omega
      rw [hke]
      exact ⟨(), trivial, (Sub.cons rfl (Sub.cons rfl (Sub.cons rfl (Sub.cons rfl (Sub.cons rfl (Sub.cons rfl (Sub.cons rfl (Sub.cons rfl (Sub.nil _))))))))), Ent.refl⟩
    have h5 : (k : Int) < (fitM c).clients := h5
    have hhask : D.has k = true := by rw [has_iff, hD.clients]; omega
    have hwm : D.waitsM k = (D.wt k, !(D.wt k == 0)) := by unfold AdmM.waitsM; rw [if_pos hhask]
    have hck : D.cnt k ≤ 6 := by
      have : D.cnt k ≤ (List.range k).length := List.length_filter_le _ _
      rw [List.length_range] at this
      omega
    (repeat (first | refine VC.seq ?_ | refine VC.region ?_ | refine VC.block ?_ | refine VC.label ?_ | refine VC.scope ?_ | refine VO.go (VO.nil ?_) | refine VO.go (VO.ld 0 rfl rfl rfl rfl ?_)))
    refine VO.go (VO.callV' (u := .tuple #[.int .i64 (D.wt k), .bool (!(D.wt k == 0))]) (fun Fr w hF _ hs => by
      have := waits_spec Fr w k (hs.at_ 0 rfl)
      rw [hwm] at this
      exact this) rfl (VO.go (VO.nil ?_)))
    (repeat (first | refine VC.seq ?_ | refine VC.region ?_ | refine VC.block ?_ | refine VC.label ?_ | refine VC.scope ?_ | refine VO.go (VO.nil ?_) | refine VO.go (VO.ld 0 rfl rfl rfl rfl ?_)))
    refine VC.cond rfl (fun h7 => ?_) (fun h7 => VC.skip ?_)
    · have h7 : D.wt k ≠ 0 := by simpa using h7
      have e : D.cnt (k + 1) = D.cnt k + 1 := by rw [cnt_succ, if_neg h7]
      (repeat (first | refine VC.seq ?_ | refine VC.region ?_ | refine VC.block ?_ | refine VC.label ?_ | refine VC.scope ?_ | refine VO.go (VO.nil ?_) | refine VO.go (VO.ld 0 rfl rfl rfl rfl ?_)))
      refine VO.go (VO.add rfl rfl (by omega) (by omega) ?_)
      (repeat (first | refine VC.seq ?_ | refine VC.region ?_ | refine VC.block ?_ | refine VC.label ?_ | refine VC.scope ?_ | refine VO.go (VO.nil ?_) | refine VO.go (VO.ld 0 rfl rfl rfl rfl ?_)))
      refine VO.go (VO.add rfl rfl (by omega) (by omega) ?_)
      (repeat (first | refine VC.seq ?_ | refine VC.region ?_ | refine VC.block ?_ | refine VC.label ?_ | refine VC.scope ?_ | refine VO.go (VO.nil ?_) | refine VO.go (VO.ld 0 rfl rfl rfl rfl ?_)))
      exact ⟨k + 1, (by show ((k + 1 : Nat) : Int) ≤ _; omega), by dsimp only; omega, (Sub.cons rfl (Sub.cons rfl (Sub.cons rfl (Sub.cons rfl (Sub.cons rfl (Sub.cons rfl (Sub.cons rfl (Sub.int rfl (by rw [e]; push_cast; rfl) (Sub.cons rfl (Sub.nil _)))))))))), Ent.refl⟩
    · have h7 : D.wt k = 0 := by simpa using h7
      have e : D.cnt (k + 1) = D.cnt k := by rw [cnt_succ, if_pos h7]; rfl
      (repeat (first | refine VC.seq ?_ | refine VC.region ?_ | refine VC.block ?_ | refine VC.label ?_ | refine VC.scope ?_ | refine VO.go (VO.nil ?_) | refine VO.go (VO.ld 0 rfl rfl rfl rfl ?_)))
      refine VO.go (VO.add rfl rfl (by omega) (by omega) ?_)
      (repeat (first | refine VC.seq ?_ | refine VC.region ?_ | refine VC.block ?_ | refine VC.label ?_ | refine VC.scope ?_ | refine VO.go (VO.nil ?_) | refine VO.go (VO.ld 0 rfl rfl rfl rfl ?_)))
      exact ⟨k + 1, (by show ((k + 1 : Nat) : Int) ≤ _; omega), by dsimp only; omega, (Sub.cons rfl (Sub.cons rfl (Sub.cons rfl (Sub.cons rfl (Sub.cons rfl (Sub.cons rfl (Sub.cons rfl (Sub.int rfl (by rw [e]) (Sub.cons rfl (Sub.nil _)))))))))), Ent.refl⟩
  intro _ _
  (repeat (first | refine VC.seq ?_ | refine VC.region ?_ | refine VC.block ?_ | refine VC.label ?_ | refine VC.scope ?_ | refine VO.go (VO.nil ?_) | refine VO.go (VO.ld 0 rfl rfl rfl rfl ?_)))
  refine VC.condNE rfl (fun h => absurd (by rw [hcnt]) h) (fun _ => VC.skip ?_)
  (repeat (first | refine VC.seq ?_ | refine VC.region ?_ | refine VC.block ?_ | refine VC.label ?_ | refine VC.scope ?_ | refine VO.go (VO.nil ?_) | refine VO.go (VO.ld 0 rfl rfl rfl rfl ?_)))
  refine VO.go (VO.add rfl rfl (by omega) (by omega) ?_)
  (repeat (first | refine VC.seq ?_ | refine VC.region ?_ | refine VC.block ?_ | refine VC.label ?_ | refine VC.scope ?_ | refine VO.go (VO.nil ?_) | refine VO.go (VO.ld 0 rfl rfl rfl rfl ?_)))
  exact ⟨(i + 1, D, ref), ⟨hi2, hD, hR⟩, by dsimp only; omega, (Sub.cons rfl (Sub.cons rfl (Sub.cons rfl (Sub.cons rfl (Sub.cons rfl (Sub.cons rfl (Sub.nil _))))))), Ent.refl⟩
end Go.Proofs.Ytoinocihlfmnnaa.Adm
