/- SchedPlays, walked through. Conditions: the kinds' bounds. -/
import Derived.Test.YtpgcjbddjghkdaaRef16N
import Derived.Test.YtpgcjbddjghkdaaRef16P
import Derived.Test.YtpgcjbddjghkdaaRef16E
import Derived.Test.YtpgcjbddjghkdaaSchedC
import Derived.Test.YtpgcjbddjghkdaaSFrames
namespace Go.Proofs.Ytpgcjbddjghkdaa.SLaw
open Go Go.Proofs.Ytpgcjbddjghkdaa.Vg Go.Proofs.Ytpgcjbddjghkdaa.T Go.Proofs.Ytpgcjbddjghkdaa.Api Go.Proofs.Ytpgcjbddjghkdaa.Ring Go.Proofs.Ytpgcjbddjghkdaa.Sched Go.Proofs.Ytpgcjbddjghkdaa.Ref16
set_option linter.unusedSimpArgs false
set_option linter.unusedVariables false
attribute [local irreducible] VO VC VA

theorem cell_of_keep {w w' : World} {b off : Nat} {v : Value} (hb : w'.heap[b]? = w.heap[b]?) (h : w.cell? ⟨b, off, none⟩ = some v) : w'.cell? ⟨b, off, none⟩ = some v := by
  rw [← h]; unfold World.cell?; rw [hb]
theorem _root_.Go.Proofs.Ytpgcjbddjghkdaa.Sched.IntsIn.of {X : Cx} {a : Option Addr} {qs : List Int} (h : IntsIn X.Fr X.w0 a qs) {Fr' : Nat → Prop} (hF : ∀ b, X.Fr b → Fr' b) {w : World} {L : List HP} (hw : St X L w) : IntsIn Fr' w a qs := ⟨fun hne => by
  obtain ⟨b, off, h1, h2, h3⟩ := h.at_ hne
  exact ⟨b, off, h1, hF b h2, fun i v hv => cell_of_keep (hw.keep.block b h2) (h3 i v hv)⟩⟩
theorem ActsIn.of {X : Cx} {a : Option Addr} {l : List ActM} (h : ActsIn X.Fr X.w0 a l) {Fr' : Nat → Prop} (hF : ∀ b, X.Fr b → Fr' b) {w : World} {L : List HP} (hw : St X L w) : ActsIn Fr' w a l := ⟨fun hne => by
  obtain ⟨b, off, h1, h2, h3⟩ := h.at_ hne
  exact ⟨b, off, h1, hF b h2, fun i x hx j v hv => cell_of_keep (hw.keep.block b h2) (h3 i x hx j v hv)⟩, h.len⟩
theorem FramesIn.fr {Fr : Nat → Prop} {w : World} {a : Option Addr} {c : Nat} {gs : List FM} (h : SatIn Fr [frH a c gs] w) (hn : gs.length ≤ 1000000) : FramesIn Fr w a gs := by
  refine ⟨fun hne => ?_, hn⟩
  obtain ⟨F, ⟨i, G, rfl, hs, rfl⟩, hF⟩ := h
  obtain ⟨hc, ⟨rfl, h0, _, _⟩ | ⟨b, rest, rfl, rfl, hn, hr, hh⟩⟩ := hs
  · exact absurd (List.eq_nil_of_length_eq_zero h0) hne
  · refine ⟨b, 0, rfl, hF b (by simp), fun i g hg => ?_⟩
    rw [Nat.zero_add]
    exact rangeAt_blk hh (flat_row fmc_len hg rest)
theorem FramesIn.blk1 {Fr : Nat → Prop} {w : World} {b : Nat} {g : FM} (h : Blk Fr w b (fmc g)) : FramesIn Fr w (some ⟨b, 0, none⟩) [g] := by
  refine ⟨fun _ => ?_, by show 1 ≤ _; omega⟩
  obtain ⟨t, fz, ht⟩ := h.at_
  refine ⟨b, 0, rfl, h.fr, fun i x hx => ?_⟩
  match i, hx with
  | 0, hx =>
    obtain rfl : g = x := Option.some.inj hx
    exact rangeAt_blk (n := 29) ht rfl
  | n + 1, hx => cases hx

theorem wait_few {S : SchM} (h : S.Wf) : S.waitM.length ≤ 64 := by
  have := h.few S.cls.length
  rwa [List.take_length] at this

/-! ### alike -/
set_option maxRecDepth 100000 in
theorem alike_spec (Fr : Nat → Prop) (w : World) (p q : Nat) (a : Option Addr) (S : SchM) (hs : SatIn Fr [schH p S] w) (hr : SatIn Fr [rfH q a S] w) :
    Tri Try.prog 32 [.pointer (some ⟨p, 0, none⟩), .pointer (some ⟨q, 0, none⟩)] Fr w [] (fun v L => v = .bool true ∧ L = []) := by
  obtain ⟨s, h⟩ := RfIn.of hr
  have hb := h.at0
  have hq := h.q
  have hsv := h.sv
  have hn4 := h.ok.wf.n1
  refine Tri.of 47 Try.func32 rfl (by kernel_rfl) tabOk rfl rfl ?_
  (repeat (first | refine VC.seq ?_ | refine VC.region ?_ | refine VC.block ?_ | refine VC.label ?_ | refine VC.scope ?_ | refine VO.go (VO.nil ?_) | refine VO.go (VO.ld 0 rfl rfl rfl rfl ?_)))
  refine VC.loop (σ := Nat) (fun i => [(0, .pointer (some ⟨p, 0, none⟩)), (1, .pointer (some ⟨q, 0, none⟩)), (5, .int .i64 ((i : Int) - 1))]) (fun _ => []) (fun i => i ≤ 7) (fun i => 7 - i) 0 (Nat.zero_le _) (Sub.cons rfl (Sub.cons rfl (Sub.cons rfl (Sub.nil _)))) Ent.refl ?_
  intro i hi
  (repeat (first | refine VC.seq ?_ | refine VC.region ?_ | refine VC.block ?_ | refine VC.label ?_ | refine VC.scope ?_ | refine VO.go (VO.nil ?_) | refine VO.go (VO.ld 0 rfl rfl rfl rfl ?_)))
  refine VC.condP rfl (fun h1 => VC.skip ?_) (fun h1 => VC.exit ?_)
  · refine VC.seq (VC.block ?_)
    refine VC.seq (VC.region (VO.go (VO.nil ?_)))
    refine VC.meet (σ := Unit) (fun _ => [(0, .pointer (some ⟨p, 0, none⟩)), (1, .pointer (some ⟨q, 0, none⟩)), (5, .int .i64 ((i : Int) - 1)), (6, .int .i64 (S.lenM ((i : Int) - 1))), (7, .int .i64 (S.servedM ((i : Int) - 1)))]) (fun _ => []) (fun _ => True) ?_ ?_
    · (repeat (first | refine VC.seq ?_ | refine VC.region ?_ | refine VC.block ?_ | refine VC.label ?_ | refine VC.scope ?_ | refine VO.go (VO.nil ?_) | refine VO.go (VO.ld 0 rfl rfl rfl rfl ?_)))
      refine VO.go (VO.callV' (fun Fr w hF hs _ => Ref16.has_spec Fr w ((i : Int) - 1) (hb.of hF hs)) rfl (VO.go (VO.nil ?_)))
      refine VC.condP rfl (fun h2 => ?_) (fun h2 => VC.skip ?_)
      · obtain ⟨k, hk⟩ := Int.eq_ofNat_of_zero_le h2.1
        have hk2 : k < S.cls.length := by omega
        obtain ⟨r, c, hr, hc, hok, hl⟩ := h.ok.row hk2
        have hlen : r.xs.length = c.q.length := by have := congrArg List.length hl; simpa using this
        refine VC.draw (ts 0 17 .nil) (by kernel_rfl) (by decide +kernel) ?_
        (repeat (first | refine VA.go (VA.nil ?_) | refine VA.go (VA.load rfl rfl rfl (RdL.blk hb rfl) ?_)))
        refine VA.go (VA.light rfl (light_idx k rfl rfl rfl rfl rfl hk hk2) ?_)
        refine VA.go (VA.load rfl rfl rfl (RdL.blk hq (rows_v hr)) ?_)
        (repeat (first | refine VA.go (VA.nil ?_) | refine VA.go (VA.load rfl rfl rfl (RdL.blk hb rfl) ?_)))
        refine VA.go (VA.light rfl (light_idx k rfl rfl rfl rfl rfl hk hk2) ?_)
        refine VA.go (VA.load rfl rfl rfl (RdL.blk hsv (svs_at hc)) ?_)
        (repeat (first | refine VA.go (VA.nil ?_) | refine VA.go (VA.ld 0 rfl rfl rfl rfl rfl ?_)))
        refine ⟨(), trivial, Sub.cons rfl (Sub.cons rfl (Sub.cons rfl (Sub.int rfl ?_ (Sub.int rfl ?_ (Sub.nil _))))), Ent.refl⟩
        · rw [hk, SchM.lenM, SchM.at_nat, hc]; dsimp only; omega
        · rw [hk, SchM.servedM, SchM.at_nat, hc]
      · refine ⟨(), trivial, Sub.cons rfl (Sub.cons rfl (Sub.cons rfl (Sub.int rfl ?_ (Sub.int rfl ?_ (Sub.nil _))))), Ent.refl⟩
        · rw [SchM.lenM, SchM.at_out h2]
        · rw [SchM.servedM, SchM.at_out h2]
    intro _ _
    (repeat (first | refine VC.seq ?_ | refine VC.region ?_ | refine VC.block ?_ | refine VC.label ?_ | refine VC.scope ?_ | refine VO.go (VO.nil ?_) | refine VO.go (VO.ld 0 rfl rfl rfl rfl ?_)))
    refine VO.go (VO.callV' (fun Fr w hF h2 _ => Sched.len_spec Fr w ((i : Int) - 1) (hs.of hF h2)) rfl ?_)
    refine VO.go (VO.yes 35 false rfl (by simp) ?_)
    refine VO.go (VO.callV' (fun Fr w hF h2 _ => Sched.served_spec Fr w ((i : Int) - 1) (hs.of hF h2)) rfl (VO.go (VO.nil ?_)))
    refine VC.condNE rfl (fun h => absurd rfl h) (fun _ => VC.skip ?_)
    (repeat (first | refine VC.seq ?_ | refine VC.region ?_ | refine VC.block ?_ | refine VC.label ?_ | refine VC.scope ?_ | refine VO.go (VO.nil ?_) | refine VO.go (VO.ld 0 rfl rfl rfl rfl ?_)))
    refine VO.go (VO.add rfl rfl (by omega) (by omega) ?_)
    (repeat (first | refine VC.seq ?_ | refine VC.region ?_ | refine VC.block ?_ | refine VC.label ?_ | refine VC.scope ?_ | refine VO.go (VO.nil ?_) | refine VO.go (VO.ld 0 rfl rfl rfl rfl ?_)))
    exact ⟨i + 1, (by show i + 1 ≤ 7; omega), by dsimp only; omega, Sub.cons rfl (Sub.cons rfl (Sub.int rfl (by push_cast; omega) (Sub.nil _))), Ent.refl⟩
  · (repeat (first | refine VC.seq ?_ | refine VC.region ?_ | refine VC.block ?_ | refine VC.label ?_ | refine VC.scope ?_ | refine VO.go (VO.nil ?_) | refine VO.go (VO.ld 0 rfl rfl rfl rfl ?_)))
    refine VO.go (VO.call (Lc := []) (fun Fr w hF h2 _ => Sched.waiting_spec Fr w (hs.of hF h2)) rfl rfl ?_)
    rintro _ _ ⟨a1, c1, gs, hgs, rfl, rfl⟩
    refine VO.go (VO.call (Lc := []) (fun Fr w hF h2 _ => Ref16.waiting_spec Fr w (hr.of hF h2)) rfl rfl ?_)
    rintro _ _ ⟨a2, c2, gs2, hgs2, rfl, rfl⟩
    have hfew := wait_few h.ok.wf
    have hl1 : gs.length ≤ 1000000 := by have := congrArg List.length hgs; rw [List.length_map] at this; omega
    have hl2 : gs2.length ≤ 1000000 := by have := congrArg List.length hgs2; rw [List.length_map] at this; omega
    refine VO.go (VO.callV' (fun Fr w hF _ h2 => frames_same Fr w a1 a2 c1 c2 gs gs2 (FramesIn.fr (h2.at_ 1 rfl) hl1) (FramesIn.fr (h2.at_ 0 rfl) hl2) (hgs.trans hgs2.symm)) rfl (VO.go (VO.nil ?_)))
    exact VC.ret (Ret.bool 4 rfl rfl rfl Imp.nil.ent ⟨rfl, rfl⟩)

/-! ### What a step answers -/
def popV (S : SchM) : FrameM × Bool × SchM := match S.popM with
  | some r => (r.1, true, r.2)
  | none => (FrameM.zero, false, S)
theorem popV_s {p : Nat} {S : SchM} {v : Value} {L : List HP} (h : Sched.popR p S v L) : ∃ H, L = [H] ∧ (∃ m, v = .tuple #[.agg (fmc ((popV S).1, m)).toArray, .bool (popV S).2.1]) ∧ H = schH p (popV S).2.2 := by
  unfold Sched.popR at h; unfold popV
  cases hp : S.popM with
  | none => rw [hp] at h; exact ⟨_, h.2, ⟨(none, 0), h.1⟩, rfl⟩
  | some r => rw [hp] at h; exact ⟨_, h.2, h.1, rfl⟩
theorem popV_r {p : Nat} {a : Option Addr} {S : SchM} {v : Value} {L : List HP} (h : popRf p a S v L) : ∃ H, L = [H] ∧ (∃ m, v = .tuple #[.agg (fmc ((popV S).1, m)).toArray, .bool (popV S).2.1]) ∧ H = rfH p a (popV S).2.2 := by
  unfold popRf at h; unfold popV
  cases hp : S.popM with
  | none => rw [hp] at h; exact ⟨_, h.2, ⟨(none, 0), h.1⟩, rfl⟩
  | some r => rw [hp] at h; obtain ⟨f, S1⟩ := r; exact ⟨_, h.2, h.1, rfl⟩
structure PInv (qs : List Int) (n : Nat) (S : SchM) : Prop where
  wf : S.Wf
  qs : S.cls.map ClsM.quantum = qs
  few : few S (96 * n)
theorem PInv.next {qs : List Int} {n : Nat} {S S' : SchM} (h : PInv qs n S) (hw : S'.Wf) (hq : S'.cls.map ClsM.quantum = S.cls.map ClsM.quantum) (hs : S'.cls.map ClsM.served = S.cls.map ClsM.served) : PInv qs (n + 1) S' := by
  refine ⟨hw, hq.trans h.qs, fun c hc => ?_⟩
  have : c.served ∈ S.cls.map ClsM.served := hs ▸ List.mem_map_of_mem hc
  obtain ⟨c', hc', e⟩ := List.mem_map.1 this
  have := h.few c' hc'
  push_cast; omega
theorem PInv.pop {qs : List Int} {n : Nat} {S : SchM} (h : PInv qs n S) : PInv qs (n + 1) (popV S).2.2 := by
  unfold popV
  cases hp : S.popM with
  | none => exact h.next h.wf rfl rfl
  | some r =>
    obtain ⟨f, S1⟩ := r
    obtain ⟨_, _, _, _, _, hw⟩ := popM_some h.wf hp
    obtain ⟨h1, h2⟩ := popM_keeps h.wf h.qs h.few hp
    refine ⟨hw, h1, fun c hc => ?_⟩
    have := h2 c hc
    push_cast; omega
theorem map_set_same {β : Type} {g : ClsM → β} {l : List ClsM} {k : Nat} {c c' : ClsM} (hc : l[k]? = some c) (h : g c' = g c) : (l.set k c').map g = l.map g := by
  rw [List.map_set, h]
  exact list_set_same (by rw [List.getElem?_map, hc]; rfl)
theorem PInv.push {qs : List Int} {n : Nat} {S : SchM} (h : PInv qs n S) (f : FrameM) : PInv qs (n + 1) (S.pushM f).2 := by
  refine h.next (push_wf h.wf f) ?_ ?_ <;>
  · unfold SchM.pushM
    cases hat : S.at_ f.cls with
    | none => rfl
    | some c =>
      have hc : S.cls[f.cls.toNat]? = some c := by
        unfold SchM.at_ at hat
        split at hat
        · exact hat
        · cases hat
      dsimp only
      split
      · rfl
      · split
        · exact map_set_same hc rfl
        · rfl
theorem PInv.exp {qs : List Int} {n : Nat} {S : SchM} (h : PInv qs n S) (now : Int) : PInv qs (n + 1) (S.expM now) :=
  h.next (exp_wf h.wf now) (by simp [SchM.expM, Function.comp_def, ClsM.expC]) (by simp [SchM.expM, Function.comp_def, ClsM.expC])
theorem PInv.start {qs : List Int} {cap : Int} (h : newOk qs cap = true) : PInv qs 0 (SchM.new qs cap) := by
  refine ⟨SchM.new_wf h, by simp [SchM.new, clsNew, Function.comp_def], fun c hc => ?_⟩
  obtain ⟨q, _, rfl⟩ := List.mem_map.1 hc
  exact Int.le_refl _

set_option maxRecDepth 100000 in
theorem plays_spec (Fr : Nat → Prop) (w : World) (qa : Option Addr) (qc : Nat) (qs : List Int) (cap : Int) (la : Option Addr) (lc : Nat) (l : List ActM) (hq : IntsIn Fr w qa qs) (hl : ActsIn Fr w la l) (hk : ∀ x ∈ l, 0 ≤ x.kind) (hql : qs.length ≤ 9223372036854775807) :
    Tri Try.prog 8 [.slice qa qs.length qc, .int .i64 cap, .slice la l.length lc] Fr w [] (fun v L => v = .bool true ∧ L = []) := by
  refine Tri.of 134 Try.func8 rfl (by kernel_rfl) tabOk rfl rfl ?_
  (repeat (first | refine VC.seq ?_ | refine VC.region ?_ | refine VC.block ?_ | refine VC.label ?_ | refine VC.scope ?_ | refine VO.go (VO.nil ?_) | refine VO.go (VO.ld 0 rfl rfl rfl rfl ?_)))
  refine VO.go (VO.split 21 rfl rfl (fun h0 => VO.go (VO.nil (VC.condT rfl ?_))) (fun h0 => ?_))
  · (repeat (first | refine VC.seq ?_ | refine VC.region ?_ | refine VC.block ?_ | refine VC.label ?_ | refine VC.scope ?_ | refine VO.go (VO.nil ?_) | refine VO.go (VO.ld 0 rfl rfl rfl rfl ?_)))
    refine VO.go (VO.callV (fun Fr w => turned_spec Fr w) rfl (VO.go (VO.nil ?_)))
    exact VC.ret (Ret.bool 6 rfl rfl rfl Imp.nil.ent ⟨rfl, rfl⟩)
  have h0 := of_decide_eq_false h0
  refine VO.go (VO.callV' (fun Fr w hF hs _ => great_spec Fr w la lc l 150 (hl.of hF hs)) rfl (VO.go (VO.nil ?_)))
  refine VC.cond rfl (fun hg => ?_) (fun hg => VC.skip ?_)
  · (repeat (first | refine VC.seq ?_ | refine VC.region ?_ | refine VC.block ?_ | refine VC.label ?_ | refine VC.scope ?_ | refine VO.go (VO.nil ?_) | refine VO.go (VO.ld 0 rfl rfl rfl rfl ?_)))
    refine VO.go (VO.callV (fun Fr w => turned_spec Fr w) rfl (VO.go (VO.nil ?_)))
    exact VC.ret (Ret.bool 6 rfl rfl rfl Imp.nil.ent ⟨rfl, rfl⟩)
  have hlen : l.length ≤ 150 := by
    simp only [greatM, Bool.or_eq_false_iff, decide_eq_false_iff_not] at hg; omega
  have hmn : ∀ x ∈ l, x.mn = 0 := fun x hx => by
    simp only [greatM, Bool.or_eq_false_iff, List.any_eq_false] at hg
    have := hg.1 x hx
    simp only [ActM.bad, Bool.or_eq_true, decide_eq_true_eq] at this
    omega
  (repeat (first | refine VC.seq ?_ | refine VC.region ?_ | refine VC.block ?_ | refine VC.label ?_ | refine VC.scope ?_ | refine VO.go (VO.nil ?_) | refine VO.go (VO.ld 0 rfl rfl rfl rfl ?_)))
  refine VO.go (VO.call (Lc := []) (fun Fr w hF hs _ => Sched.new_spec Fr w qa qc qs cap (hq.of hF hs)) rfl rfl ?_)
  intro v1 L1 hv1
  unfold newR at hv1
  by_cases hok : newOk qs cap = true
  rotate_left
  · rw [if_neg hok] at hv1
    obtain ⟨rfl, rfl⟩ := hv1
    (repeat (first | refine VC.seq ?_ | refine VC.region ?_ | refine VC.block ?_ | refine VC.label ?_ | refine VC.scope ?_ | refine VO.go (VO.nil ?_) | refine VO.go (VO.ld 0 rfl rfl rfl rfl ?_)))
    refine VO.go (VO.call (Lc := []) (fun Fr w hF hs _ => Ref16.new_spec Fr w qa qc qs cap (hq.of hF hs) (by omega)) rfl rfl ?_)
    intro v2 L2 hv2
    unfold newRf at hv2
    rw [if_neg hok] at hv2
    obtain ⟨rfl, rfl⟩ := hv2
    (repeat (first | refine VC.seq ?_ | refine VC.region ?_ | refine VC.block ?_ | refine VC.label ?_ | refine VC.scope ?_ | refine VO.go (VO.nil ?_) | refine VO.go (VO.ld 0 rfl rfl rfl rfl ?_)))
    refine VO.go (VO.yes 41 false rfl rfl (VO.go (VO.nil (VC.condT rfl ?_))))
    (repeat (first | refine VC.seq ?_ | refine VC.region ?_ | refine VC.block ?_ | refine VC.label ?_ | refine VC.scope ?_ | refine VO.go (VO.nil ?_) | refine VO.go (VO.ld 0 rfl rfl rfl rfl ?_)))
    refine VO.go (VO.yes 48 true rfl rfl (VO.go (VO.yes 52 true rfl rfl ?_)))
    refine VO.go (VO.callV (fun Fr w => turned_spec Fr w) rfl (VO.go (VO.nil ?_)))
    exact VC.ret (Ret.bool 6 rfl rfl rfl Imp.nil.ent ⟨rfl, rfl⟩)
  rw [if_pos hok] at hv1
  obtain ⟨p, rfl, rfl⟩ := hv1
  (repeat (first | refine VC.seq ?_ | refine VC.region ?_ | refine VC.block ?_ | refine VC.label ?_ | refine VC.scope ?_ | refine VO.go (VO.nil ?_) | refine VO.go (VO.ld 0 rfl rfl rfl rfl ?_)))
  refine VO.go (VO.call (Lc := []) (fun Fr w hF hs _ => Ref16.new_spec Fr w qa qc qs cap (hq.of hF hs) (by omega)) rfl rfl ?_)
  intro v2 L2 hv2
  unfold newRf at hv2
  rw [if_pos hok] at hv2
  obtain ⟨q, rfl, rfl⟩ := hv2
  (repeat (first | refine VC.seq ?_ | refine VC.region ?_ | refine VC.block ?_ | refine VC.label ?_ | refine VC.scope ?_ | refine VO.go (VO.nil ?_) | refine VO.go (VO.ld 0 rfl rfl rfl rfl ?_)))
  refine VO.go (VO.yes 41 false rfl rfl (VO.go (VO.nil (VC.condF rfl (VC.skip ?_)))))
  (repeat (first | refine VC.seq ?_ | refine VC.region ?_ | refine VC.block ?_ | refine VC.label ?_ | refine VC.scope ?_ | refine VO.go (VO.nil ?_) | refine VO.go (VO.ld 0 rfl rfl rfl rfl ?_)))
  refine VC.loop (σ := Nat × SchM) (fun x => [(2, .slice la l.length lc), (7, .pointer (some ⟨p, 0, none⟩)), (9, .pointer (some ⟨q, 0, none⟩)), (11, .int .i64 x.1)]) (fun x => [schH p x.2, rfH q qa x.2]) (fun x => x.1 ≤ l.length ∧ PInv qs x.1 x.2) (fun x => l.length - x.1) (0, SchM.new qs cap) ⟨Nat.zero_le _, PInv.start hok⟩ (Sub.cons rfl (Sub.cons rfl (Sub.cons rfl (Sub.cons rfl (Sub.nil _))))) (Imp.perm (List.Perm.swap _ _ _)).ent ?_
  rintro ⟨i, S⟩ ⟨hi, hI⟩
  dsimp only at hi hI ⊢
  (repeat (first | refine VC.seq ?_ | refine VC.region ?_ | refine VC.block ?_ | refine VC.label ?_ | refine VC.scope ?_ | refine VO.go (VO.nil ?_) | refine VO.go (VO.ld 0 rfl rfl rfl rfl ?_)))
  refine VC.condP rfl (fun h1 => VC.skip ?_) (fun h1 => VC.exit ?_)
  rotate_left
  · (repeat (first | refine VC.seq ?_ | refine VC.region ?_ | refine VC.block ?_ | refine VC.label ?_ | refine VC.scope ?_ | refine VO.go (VO.nil ?_) | refine VO.go (VO.ld 0 rfl rfl rfl rfl ?_)))
    refine VO.go (VO.callV (fun Fr w => turned_spec Fr w) rfl (VO.go (VO.nil ?_)))
    exact VC.ret (Ret.bool 6 rfl rfl rfl Imp.nil.ent ⟨rfl, rfl⟩)
  have hi2 : i < l.length := by omega
  obtain ⟨lb, lo, hla, hFl, hcell⟩ := hl.at_ (fun e => by rw [e] at hi2; simp at hi2)
  subst hla
  have hx := List.getElem?_eq_getElem hi2
  have hxm : l[i] ∈ l := List.getElem_mem hi2
  generalize l[i] = x at hx hxm
  have hcx := hcell i x hx
  have hx0 := hmn x hxm
  have hxk := hk x hxm
  obtain ⟨kind, f, ma, mn, mc, now⟩ := x
  dsimp only at hx0 hxk
  subst hx0
  refine VC.seq (VC.block ?_)
  (repeat (first | refine VC.seq ?_ | refine VC.region ?_ | refine VC.block ?_ | refine VC.label ?_ | refine VC.scope ?_ | refine VO.go (VO.nil ?_) | refine VO.go (VO.ld 0 rfl rfl rfl rfl ?_)))
  refine VO.go (VO.light (light_idx i rfl rfl rfl rfl rfl rfl hi2) ?_)
  refine VO.go (VO.load rfl rfl (RdL.rd (v := .agg (ActM.cells ⟨kind, f, ma, 0, mc, now⟩).toArray) hFl ⟨_, rfl, rfl, fun j v hv => hcx j v hv⟩) ?_)
  refine VO.go (VO.alloc rfl fun b => VO.go (VO.stA (vs := ActM.cells ⟨kind, f, ma, 0, mc, now⟩) (cs' := ActM.cells ⟨kind, f, ma, 0, mc, now⟩) 0 rfl rfl rfl rfl (Nat.le_refl _) rfl rfl rfl (VO.go (VO.nil ?_))))
  refine VC.meet (σ := SchM) (fun _ => [(2, .slice (some ⟨lb, lo, none⟩) l.length lc), (7, .pointer (some ⟨p, 0, none⟩)), (9, .pointer (some ⟨q, 0, none⟩)), (11, .int .i64 i)]) (fun S' => [schH p S', rfH q qa S']) (fun S' => PInv qs (i + 1) S') ?_ ?_
  · (repeat (first | refine VC.seq ?_ | refine VC.region ?_ | refine VC.block ?_ | refine VC.label ?_ | refine VC.scope ?_ | refine VO.go (VO.nil ?_) | refine VO.go (VO.ld 0 rfl rfl rfl rfl ?_)))
    refine VO.go (VO.light (light_rem rfl rfl hxk (by omega)) (VO.go (VO.nil (VC.block ?_))))
    refine VC.meet (σ := Bool) (fun t => [(2, .slice (some ⟨lb, lo, none⟩) l.length lc), (7, .pointer (some ⟨p, 0, none⟩)), (9, .pointer (some ⟨q, 0, none⟩)), (11, .int .i64 i), (12, .pointer (some ⟨b, 0, none⟩)), (67, .int .u8 (kind % 11)), (77, .bool t)]) (fun _ => [pt b (ActM.cells ⟨kind, f, ma, 0, mc, now⟩) 66, schH p S, rfH q qa S]) (fun _ => True) ?_ ?_
    · (repeat (first | refine VC.seq ?_ | refine VC.region ?_ | refine VC.block ?_ | refine VC.label ?_ | refine VC.scope ?_ | refine VO.go (VO.nil ?_) | refine VO.go (VO.ld 0 rfl rfl rfl rfl ?_)))
      refine VC.condE rfl (fun _ => VC.skip ⟨_, trivial, Sub.cons rfl (Sub.cons rfl (Sub.cons rfl (Sub.cons rfl (Sub.cons rfl (Sub.cons rfl (Sub.cons rfl (Sub.nil _))))))), Ent.refl⟩) (fun _ => ?_)
      (repeat (first | refine VC.seq ?_ | refine VC.region ?_ | refine VC.block ?_ | refine VC.label ?_ | refine VC.scope ?_ | refine VO.go (VO.nil ?_) | refine VO.go (VO.ld 0 rfl rfl rfl rfl ?_)))
      refine VC.condE rfl (fun _ => VC.skip ⟨_, trivial, Sub.cons rfl (Sub.cons rfl (Sub.cons rfl (Sub.cons rfl (Sub.cons rfl (Sub.cons rfl (Sub.cons rfl (Sub.nil _))))))), Ent.refl⟩) (fun _ => ?_)
      (repeat (first | refine VC.seq ?_ | refine VC.region ?_ | refine VC.block ?_ | refine VC.label ?_ | refine VC.scope ?_ | refine VO.go (VO.nil ?_) | refine VO.go (VO.ld 0 rfl rfl rfl rfl ?_)))
      refine VC.condE rfl (fun _ => VC.skip ⟨_, trivial, Sub.cons rfl (Sub.cons rfl (Sub.cons rfl (Sub.cons rfl (Sub.cons rfl (Sub.cons rfl (Sub.cons rfl (Sub.nil _))))))), Ent.refl⟩) (fun _ => ?_)
      (repeat (first | refine VC.seq ?_ | refine VC.region ?_ | refine VC.block ?_ | refine VC.label ?_ | refine VC.scope ?_ | refine VO.go (VO.nil ?_) | refine VO.go (VO.ld 0 rfl rfl rfl rfl ?_)))
      exact ⟨_, trivial, Sub.cons rfl (Sub.cons rfl (Sub.cons rfl (Sub.cons rfl (Sub.cons rfl (Sub.cons rfl (Sub.cons rfl (Sub.nil _))))))), Ent.refl⟩
    rintro t _
    refine VC.cond (t := t) rfl (fun _ => ?_) (fun _ => ?_)
    · (repeat (first | refine VC.seq ?_ | refine VC.region ?_ | refine VC.block ?_ | refine VC.label ?_ | refine VC.scope ?_ | refine VO.go (VO.nil ?_) | refine VO.go (VO.ld 0 rfl rfl rfl rfl ?_)))
      refine VO.go (VO.callAt 1 (ψ := fun v H => (∃ m, v = .tuple #[.agg (fmc ((popV S).1, m)).toArray, .bool (popV S).2.1]) ∧ H = schH p (popV S).2.2) rfl (fun Fr w _ _ _ => Sched.pop_any Fr w p S hI.wf) rfl (fun v L1 h => popV_s h) ?_)
      rintro _ _ ⟨⟨m1, rfl⟩, rfl⟩
      refine VO.go (VO.alloc rfl fun b1 => VO.go (VO.stA (vs := fmc ((popV S).1, m1)) (cs' := fmc ((popV S).1, m1)) 0 rfl rfl rfl rfl (Nat.le_refl _) rfl rfl rfl (VO.go (VO.nil ?_))))
      (repeat (first | refine VC.seq ?_ | refine VC.region ?_ | refine VC.block ?_ | refine VC.label ?_ | refine VC.scope ?_ | refine VO.go (VO.nil ?_) | refine VO.go (VO.ld 0 rfl rfl rfl rfl ?_)))
      refine VO.go (VO.callAt 3 (ψ := fun v H => (∃ m, v = .tuple #[.agg (fmc ((popV S).1, m)).toArray, .bool (popV S).2.1]) ∧ H = rfH q qa (popV S).2.2) rfl (fun Fr w hF hs _ => Ref16.pop_spec Fr w q qa S qs (96 * i) (hq.of hF hs) hI.qs hI.few (by omega)) rfl (fun v L1 h => popV_r h) ?_)
      rintro _ _ ⟨⟨m2, rfl⟩, rfl⟩
      refine VO.go (VO.alloc rfl fun b2 => VO.go (VO.stA (vs := fmc ((popV S).1, m2)) (cs' := fmc ((popV S).1, m2)) 0 rfl rfl rfl rfl (Nat.le_refl _) rfl rfl rfl (VO.go (VO.nil ?_))))
      (repeat (first | refine VC.seq ?_ | refine VC.region ?_ | refine VC.block ?_ | refine VC.label ?_ | refine VC.scope ?_ | refine VO.go (VO.nil ?_) | refine VO.go (VO.ld 0 rfl rfl rfl rfl ?_)))
      refine VO.go (VO.ldA 1 (fmc ((popV S).1, m1)) rfl rfl rfl rfl ?_)
      refine VO.go (VO.buildSlice (n := 1) (pv := [(0, .agg (fmc ((popV S).1, m1)).toArray)]) (fmc ((popV S).1, m1)) rfl rfl rfl rfl (by decide) (fill_one rfl rfl rfl) fun n1 => ?_)
      refine VO.go (VO.ldA 1 (fmc ((popV S).1, m2)) rfl rfl rfl rfl ?_)
      refine VO.go (VO.buildSlice (n := 1) (pv := [(0, .agg (fmc ((popV S).1, m2)).toArray)]) (fmc ((popV S).1, m2)) rfl rfl rfl rfl (by decide) (fill_one rfl rfl rfl) fun n2 => ?_)
      refine VO.go (VO.callV' (fun Fr w hF _ hs => frames_same Fr w _ _ 1 1 [((popV S).1, m1)] [((popV S).1, m2)] (FramesIn.blk1 (hs.blk 1 rfl)) (FramesIn.blk1 (hs.blk 0 rfl)) rfl) rfl ?_)
      refine VO.go (VO.yes 98 false rfl rfl (VO.go (VO.nil ?_)))
      refine VC.cond (t := ((popV S).2.1 != (popV S).2.1)) rfl (fun h => by simp at h) (fun _ => VC.skip ?_)
      exact ⟨(popV S).2.2, hI.pop, Sub.cons rfl (Sub.cons rfl (Sub.cons rfl (Sub.cons rfl (Sub.nil _)))), (Imp.trans Imp.tl (Imp.trans Imp.tl (Imp.trans Imp.tl (Imp.trans Imp.tl Imp.tl)))).ent⟩
    (repeat (first | refine VC.seq ?_ | refine VC.region ?_ | refine VC.block ?_ | refine VC.label ?_ | refine VC.scope ?_ | refine VO.go (VO.nil ?_) | refine VO.go (VO.ld 0 rfl rfl rfl rfl ?_)))
    refine VC.condE rfl (fun _ => ?_) (fun _ => ?_)
    · refine VC.seq (VC.draw (ts 0 3 (ts 4 3 (.only 3 (.only 7 (.only 8 (.take 9 .nil)))))) (by kernel_rfl) (by decide +kernel) ?_)
      (repeat (first | refine VA.go (VA.nil ?_) | refine VA.go (VA.ld 0 rfl rfl rfl rfl rfl ?_)))
      refine VA.go (VA.opP (OpT.call rfl (Lc := [schH p S]) (Lr := [pt b (ActM.cells ⟨kind, f, ma, 0, mc, now⟩) 66, rfH q qa S]) (List.Perm.swap _ _ _) (fun Fr w _ _ _ => Sched.expire_spec Fr w p S now)) rfl ?_ ?_)
      · rintro v L' ⟨L1, ⟨a1, c1, gs, hgs, rfl, rfl⟩, rfl⟩
        exact (by (try refine Pd.st ?_); (repeat (first | exact Pd.nil | exact Pd.fnil | refine Pd.inner ?_ | refine Pd.skip (by decide +kernel) ?_ | refine Pd.fcons (RdL.one 0 rfl rfl) ?_ | refine Pd.fcons (RdL.one 1 rfl rfl) ?_ | refine Pd.fcons (RdL.one 2 rfl rfl) ?_ | refine Pd.fcons (RdL.many 0 rfl rfl) ?_ | refine Pd.fcons (RdL.many 1 rfl rfl) ?_ | refine Pd.fcons (RdL.many 2 rfl rfl) ?_ | refine Pd.cons (RdL.one 0 rfl rfl) ?_ | refine Pd.cons (RdL.one 1 rfl rfl) ?_ | refine Pd.cons (RdL.one 2 rfl rfl) ?_ | refine Pd.cons (RdL.many 0 rfl rfl) ?_ | refine Pd.cons (RdL.many 1 rfl rfl) ?_ | refine Pd.cons (RdL.many 2 rfl rfl) ?_)))
      rintro v L' ⟨L1, ⟨a1, c1, gs, hgs, rfl, rfl⟩, rfl⟩
      refine VA.go (VA.opP (OpT.call rfl (Lc := [rfH q qa S]) (Lr := [schH p (S.expM now), frH a1 c1 gs, pt b (ActM.cells ⟨kind, f, ma, 0, mc, now⟩) 66]) (List.perm_append_comm (l₁ := [_, _, _]) (l₂ := [_])) (fun Fr w _ _ _ => Ref16.expire_spec Fr w q qa S now)) rfl ?_ ?_)
      · rintro v L' ⟨L1, ⟨a2, c2, gs2, hgs2, rfl, rfl⟩, rfl⟩
        exact (by (try refine Pd.st ?_); (repeat (first | exact Pd.nil | exact Pd.fnil | refine Pd.inner ?_ | refine Pd.skip (by decide +kernel) ?_ | refine Pd.fcons (RdL.one 0 rfl rfl) ?_ | refine Pd.fcons (RdL.one 1 rfl rfl) ?_ | refine Pd.fcons (RdL.one 2 rfl rfl) ?_ | refine Pd.fcons (RdL.one 3 rfl rfl) ?_ | refine Pd.fcons (RdL.one 4 rfl rfl) ?_ | refine Pd.fcons (RdL.many 0 rfl rfl) ?_ | refine Pd.fcons (RdL.many 1 rfl rfl) ?_ | refine Pd.fcons (RdL.many 2 rfl rfl) ?_ | refine Pd.fcons (RdL.many 3 rfl rfl) ?_ | refine Pd.fcons (RdL.many 4 rfl rfl) ?_ | refine Pd.cons (RdL.one 0 rfl rfl) ?_ | refine Pd.cons (RdL.one 1 rfl rfl) ?_ | refine Pd.cons (RdL.one 2 rfl rfl) ?_ | refine Pd.cons (RdL.one 3 rfl rfl) ?_ | refine Pd.cons (RdL.one 4 rfl rfl) ?_ | refine Pd.cons (RdL.many 0 rfl rfl) ?_ | refine Pd.cons (RdL.many 1 rfl rfl) ?_ | refine Pd.cons (RdL.many 2 rfl rfl) ?_ | refine Pd.cons (RdL.many 3 rfl rfl) ?_ | refine Pd.cons (RdL.many 4 rfl rfl) ?_)))
      rintro v L' ⟨L1, ⟨a2, c2, gs2, hgs2, rfl, rfl⟩, rfl⟩
      have hfew := hI.wf.fewG S.cls.length now
      rw [List.take_length] at hfew
      have hfew : (S.goneM now).length ≤ 64 := hfew
      have hl1 : gs.length ≤ 1000000 := by have := congrArg List.length hgs; rw [List.length_map] at this; omega
      have hl2 : gs2.length ≤ 1000000 := by have := congrArg List.length hgs2; rw [List.length_map] at this; omega
      refine VA.go (VA.callP (φ := fun v => v = .bool true) (fun Fr w hF _ hs => frames_same Fr w a1 a2 c1 c2 gs gs2 (FramesIn.fr (hs.at_ 3 rfl) hl1) (FramesIn.fr (hs.at_ 1 rfl) hl2) (hgs.trans hgs2.symm)) rfl rfl (by (try refine Pd.st ?_); (repeat (first | exact Pd.nil | exact Pd.fnil | refine Pd.inner ?_ | refine Pd.skip (by decide +kernel) ?_ | refine Pd.fcons (RdL.one 0 rfl rfl) ?_ | refine Pd.fcons (RdL.one 1 rfl rfl) ?_ | refine Pd.fcons (RdL.one 2 rfl rfl) ?_ | refine Pd.fcons (RdL.one 3 rfl rfl) ?_ | refine Pd.fcons (RdL.one 4 rfl rfl) ?_ | refine Pd.fcons (RdL.many 0 rfl rfl) ?_ | refine Pd.fcons (RdL.many 1 rfl rfl) ?_ | refine Pd.fcons (RdL.many 2 rfl rfl) ?_ | refine Pd.fcons (RdL.many 3 rfl rfl) ?_ | refine Pd.fcons (RdL.many 4 rfl rfl) ?_ | refine Pd.cons (RdL.one 0 rfl rfl) ?_ | refine Pd.cons (RdL.one 1 rfl rfl) ?_ | refine Pd.cons (RdL.one 2 rfl rfl) ?_ | refine Pd.cons (RdL.one 3 rfl rfl) ?_ | refine Pd.cons (RdL.one 4 rfl rfl) ?_ | refine Pd.cons (RdL.many 0 rfl rfl) ?_ | refine Pd.cons (RdL.many 1 rfl rfl) ?_ | refine Pd.cons (RdL.many 2 rfl rfl) ?_ | refine Pd.cons (RdL.many 3 rfl rfl) ?_ | refine Pd.cons (RdL.many 4 rfl rfl) ?_))) ?_)
      rintro _ rfl
      (repeat (first | refine VA.go (VA.nil ?_) | refine VA.go (VA.ld 0 rfl rfl rfl rfl rfl ?_)))
      refine VC.condF rfl (VC.skip ?_)
      exact ⟨S.expM now, hI.exp now, Sub.cons rfl (Sub.cons rfl (Sub.cons rfl (Sub.cons rfl (Sub.nil _)))), (Imp.pick 2 rfl (Imp.app (L := [_]) (M := [_]) Imp.refl Imp.nil)).ent⟩
    (repeat (first | refine VC.seq ?_ | refine VC.region ?_ | refine VC.block ?_ | refine VC.label ?_ | refine VC.scope ?_ | refine VO.go (VO.nil ?_) | refine VO.go (VO.ld 0 rfl rfl rfl rfl ?_)))
    refine VC.condE rfl (fun _ => ?_) (fun _ => ?_)
    · (repeat (first | refine VC.seq ?_ | refine VC.region ?_ | refine VC.block ?_ | refine VC.label ?_ | refine VC.scope ?_ | refine VO.go (VO.nil ?_) | refine VO.go (VO.ld 0 rfl rfl rfl rfl ?_)))
      refine VO.go (VO.call (Lc := []) (fun Fr w hF _ hs => Sched.copy_spec Fr w (hs.at_ 1 rfl)) rfl rfl ?_)
      rintro _ _ ⟨p', rfl, rfl⟩
      (repeat (first | refine VC.seq ?_ | refine VC.region ?_ | refine VC.block ?_ | refine VC.label ?_ | refine VC.scope ?_ | refine VO.go (VO.nil ?_) | refine VO.go (VO.ld 0 rfl rfl rfl rfl ?_)))
      refine VO.go (VO.callAt 0 (ψ := fun v H => (∃ m, v = .tuple #[.agg (fmc ((popV S).1, m)).toArray, .bool (popV S).2.1]) ∧ H = schH p' (popV S).2.2) rfl (fun Fr w _ _ _ => Sched.pop_any Fr w p' S hI.wf) rfl (fun v L1 h => popV_s h) ?_)
      rintro _ _ ⟨⟨m1, rfl⟩, rfl⟩
      (repeat (first | refine VC.seq ?_ | refine VC.region ?_ | refine VC.block ?_ | refine VC.label ?_ | refine VC.scope ?_ | refine VO.go (VO.nil ?_) | refine VO.go (VO.ld 0 rfl rfl rfl rfl ?_)))
      refine VO.go (VO.ldA 1 (fmc (f, (ma, mc))) rfl rfl rfl rfl ?_)
      refine VO.go (VO.callAt 0 (ψ := fun v H => v = .int .i64 ((popV S).2.2.pushM f).1 ∧ H = schH p' ((popV S).2.2.pushM f).2) rfl (fun Fr w _ _ _ => Sched.push_spec Fr w p' _ (f, (ma, mc))) rfl (fun v L1 h => ⟨_, h.2, h.1, rfl⟩) ?_)
      rintro _ _ ⟨rfl, rfl⟩
      (repeat (first | refine VC.seq ?_ | refine VC.region ?_ | refine VC.block ?_ | refine VC.label ?_ | refine VC.scope ?_ | refine VO.go (VO.nil ?_) | refine VO.go (VO.ld 0 rfl rfl rfl rfl ?_) | refine VO.go (VO.ld 1 rfl rfl rfl rfl ?_)))
      refine VO.go (VO.call (Lc := [schH p' ((popV S).2.2.pushM f).2]) (fun Fr w _ _ _ => Sched.expire_spec Fr w p' _ now) rfl rfl ?_)
      rintro _ _ ⟨a1, c1, gs, hgs, rfl, rfl⟩
      refine VO.go (VO.nil ?_)
      exact ⟨S, hI.next hI.wf rfl rfl, Sub.cons rfl (Sub.cons rfl (Sub.cons rfl (Sub.cons rfl (Sub.nil _)))), (Imp.trans Imp.tl (Imp.trans Imp.tl Imp.tl)).ent⟩
    refine VC.seq (VC.draw (ts 0 3 (ts 4 3 (.only 3 (.only 7 (.take 8 .nil))))) (by kernel_rfl) (by decide +kernel) ?_)
    (repeat (first | refine VA.go (VA.nil ?_) | refine VA.go (VA.ld 0 rfl rfl rfl rfl rfl ?_)))
    refine VA.go (VA.ldA 0 (fmc (f, (ma, mc))) rfl rfl rfl rfl rfl ?_)
    (repeat (first | refine VA.go (VA.nil ?_) | refine VA.go (VA.ld 0 rfl rfl rfl rfl rfl ?_)))
    refine VA.go (VA.ldA 0 (fmc (f, (ma, mc))) rfl rfl rfl rfl rfl ?_)
    refine VA.go (VA.callAt 1 (ψ := fun v H => v = .int .i64 (S.pushM f).1 ∧ H = schH p (S.pushM f).2) rfl (fun Fr w _ _ _ => Sched.push_spec Fr w p S (f, (ma, mc))) rfl rfl (fun v L1 h => ⟨_, h.2, h.1, rfl⟩) ?_ ?_)
    · rintro _ _ ⟨rfl, rfl⟩
      exact (by (try refine Pd.st ?_); (repeat (first | exact Pd.nil | exact Pd.fnil | refine Pd.inner ?_ | refine Pd.skip (by decide +kernel) ?_ | refine Pd.fcons (RdL.one 0 rfl rfl) ?_ | refine Pd.fcons (RdL.many 0 rfl rfl) ?_ | refine Pd.cons (RdL.one 0 rfl rfl) ?_ | refine Pd.cons (RdL.many 0 rfl rfl) ?_)))
    rintro _ _ ⟨rfl, rfl⟩
    refine VA.go (VA.callAt 2 (ψ := fun v H => v = .int .i64 (S.pushM f).1 ∧ H = rfH q qa (S.pushM f).2) rfl (fun Fr w _ _ _ => Ref16.push_spec Fr w q qa S (f, (ma, mc))) rfl rfl (fun v L1 h => ⟨_, h.2, h.1, rfl⟩) ?_ ?_)
    · rintro _ _ ⟨rfl, rfl⟩
      exact (by (try refine Pd.st ?_); (repeat (first | exact Pd.nil | exact Pd.fnil | refine Pd.inner ?_ | refine Pd.skip (by decide +kernel) ?_ | refine Pd.fcons (RdL.one 0 rfl rfl) ?_ | refine Pd.fcons (RdL.many 0 rfl rfl) ?_ | refine Pd.cons (RdL.one 0 rfl rfl) ?_ | refine Pd.cons (RdL.many 0 rfl rfl) ?_)))
    rintro _ _ ⟨rfl, rfl⟩
    (repeat (first | refine VA.go (VA.nil ?_) | refine VA.go (VA.ld 0 rfl rfl rfl rfl rfl ?_)))
    refine VC.condNE rfl (fun h => absurd rfl h) (fun _ => VC.skip ?_)
    exact ⟨(S.pushM f).2, hI.push f, Sub.cons rfl (Sub.cons rfl (Sub.cons rfl (Sub.cons rfl (Sub.nil _)))), Imp.tl.ent⟩
  intro S' hI'
  (repeat (first | refine VC.seq ?_ | refine VC.region ?_ | refine VC.block ?_ | refine VC.label ?_ | refine VC.scope ?_ | refine VO.go (VO.nil ?_) | refine VO.go (VO.ld 0 rfl rfl rfl rfl ?_)))
  refine VO.go (VO.callV' (fun Fr w hF _ hs => alike_spec Fr w p q qa S' (hs.at_ 0 rfl) (hs.at_ 1 rfl)) rfl (VO.go (VO.nil (VC.condF rfl (VC.skip ?_)))))
  (repeat (first | refine VC.seq ?_ | refine VC.region ?_ | refine VC.block ?_ | refine VC.label ?_ | refine VC.scope ?_ | refine VO.go (VO.nil ?_) | refine VO.go (VO.ld 0 rfl rfl rfl rfl ?_)))
  refine VO.go (VO.add rfl rfl (by omega) (by omega) ?_)
  (repeat (first | refine VC.seq ?_ | refine VC.region ?_ | refine VC.block ?_ | refine VC.label ?_ | refine VC.scope ?_ | refine VO.go (VO.nil ?_) | refine VO.go (VO.ld 0 rfl rfl rfl rfl ?_)))
  exact ⟨(i + 1, S'), ⟨hi2, hI'⟩, by dsimp only; omega, Sub.cons rfl (Sub.cons rfl (Sub.cons rfl (Sub.cons rfl (Sub.nil _)))), Ent.refl⟩
end Go.Proofs.Ytpgcjbddjghkdaa.SLaw
