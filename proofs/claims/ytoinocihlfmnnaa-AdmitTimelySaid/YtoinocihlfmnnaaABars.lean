/- AdmitBars, walked through. Conditions: the kinds' bounds. -/
import Derived.Test.YtoinocihlfmnnaaALaw
namespace Go.Proofs.Ytoinocihlfmnnaa.Adm
open Go Go.Proofs.Ytoinocihlfmnnaa.Vg Go.Proofs.Ytoinocihlfmnnaa.T Go.Proofs.Ytoinocihlfmnnaa.Api Go.Proofs.Ytoinocihlfmnnaa.Sched Go.Proofs.Ytoinocihlfmnnaa.Conf
set_option linter.unusedSimpArgs false
set_option linter.unusedVariables false
attribute [local irreducible] VO VC VA

structure TryM where
  client : Int
  seq : Int
  try_ : Int
  cls : Int
  deadline : Int
  now : Int
  next : Bool
def TryM.cells (x : TryM) : List Value := [.int .u8 x.client, .int .u8 x.seq, .int .u8 x.try_, .int .u8 x.cls, .int .u8 x.deadline, .int .u8 x.now, .bool x.next]
structure TryM.Byte (x : TryM) : Prop where
  client : 0 ≤ x.client ∧ x.client ≤ 255
  seq : 0 ≤ x.seq ∧ x.seq ≤ 255
  try_ : 0 ≤ x.try_ ∧ x.try_ ≤ 255
  cls : 0 ≤ x.cls ∧ x.cls ≤ 255
  deadline : 0 ≤ x.deadline ∧ x.deadline ≤ 255
  now : 0 ≤ x.now ∧ x.now ≤ 255
structure TriesIn (Fr : Nat → Prop) (w : World) (a : Option Addr) (l : List TryM) : Prop where
  at_ : l ≠ [] → ∃ b off, a = some ⟨b, off, none⟩ ∧ Fr b ∧ ∀ i x, l[i]? = some x → ∀ j v, x.cells[j]? = some v → w.cell? ⟨b, off + i * 7 + j, none⟩ = some v
  byte : ∀ x ∈ l, x.Byte
theorem i64_small {a b : Int} (h1 : 0 ≤ a) (h2 : a ≤ b) (hb : b ≤ 65535 := by omega) : IntKind.i64.wrap a = a := i64_in a (by omega) (by omega)

theorem top_fst {A : AdmM} (h : A.Wf) {k : Nat} (hk : k < 6) : (flat markCs A.marks)[0 + k * 2 + 0 * 1]? = some (.int .i64 (A.mark k).1) := by
  have hk2 : k < A.marks.length := by rw [h.marks]; exact hk
  have h1 : A.marks[k]? = some (A.mark k) := by rw [AdmM.mark, Int.toNat_natCast, List.getElem?_eq_getElem hk2]; rfl
  have := flat_cell markCs_len h1 (j := 0) (v := .int .i64 (A.mark k).1) rfl []
  rw [List.append_nil] at this
  rw [← this]; congr 1; omega
theorem top_snd {A : AdmM} (h : A.Wf) {k : Nat} (hk : k < 6) : (flat markCs A.marks)[0 + k * 2 + 1 * 1]? = some (.int .i64 (A.mark k).2) := by
  have hk2 : k < A.marks.length := by rw [h.marks]; exact hk
  have h1 : A.marks[k]? = some (A.mark k) := by rw [AdmM.mark, Int.toNat_natCast, List.getElem?_eq_getElem hk2]; rfl
  have := flat_cell markCs_len h1 (j := 1) (v := .int .i64 (A.mark k).2) rfl []
  rw [List.append_nil] at this
  rw [← this]; congr 1; omega
theorem top_set {A : AdmM} (h : A.Wf) {k : Nat} (hk : k < 6) (m : MkM) : wrC (flat markCs A.marks) (0 + k * 2) (markCs m) = flat markCs (A.setMark k m).marks := by
  have hk2 : k < A.marks.length := by rw [h.marks]; exact hk
  have := flat_set markCs_len m [] hk2
  rw [List.append_nil, List.append_nil] at this
  rw [Nat.zero_add, this, AdmM.setMark, Int.toNat_natCast]
theorem barred_eq {A : AdmM} {k s t : Int} (hk : A.has k = true) : A.barred k s t = (decide (s < (A.mark k).1) || ((s == (A.mark k).1) && decide (t ≤ (A.mark k).2))) := by
  rw [AdmM.barred, hk, Bool.true_and, aheadM]
  generalize A.mark k = m
  rw [Bool.eq_iff_iff]
  simp
  omega

set_option maxHeartbeats 1000000 in
set_option maxRecDepth 100000 in
theorem bars_spec (Fr : Nat → Prop) (w : World) (c : ConfM) (ca : Option Addr) (cc : Nat) (la : Option Addr) (lc : Nat) (l : List TryM) (hq : IntsIn Fr w ca c.qs) (hl : TriesIn Fr w la l) :
    Tri Try.prog 3 [.agg (c.cells ca cc).toArray, .slice la l.length lc] Fr w [] (fun v L => v = .bool true ∧ L = []) := by
  refine Tri.of 155 Try.func3 rfl (by kernel_rfl) tabOk rfl rfl ?_
  refine VC.seq (VC.region (VO.go (VO.boxA (vs := c.cells ca cc) rfl fun cb => VO.go (VO.nil ?_))))
  (repeat (first | refine VC.seq ?_ | refine VC.region ?_ | refine VC.block ?_ | refine VC.label ?_ | refine VC.scope ?_ | refine VO.go (VO.nil ?_) | refine VO.go (VO.ld 0 rfl rfl rfl rfl ?_)))
  refine VO.go (VO.split 19 rfl rfl (fun h0 => VO.go (VO.nil (VC.condT rfl ?_))) (fun h0 => VO.go (VO.nil (VC.condP rfl (fun h1 => ?_) (fun h1 => VC.skip ?_)))))
  · (repeat (first | refine VC.seq ?_ | refine VC.region ?_ | refine VC.block ?_ | refine VC.label ?_ | refine VC.scope ?_ | refine VO.go (VO.nil ?_) | refine VO.go (VO.ld 0 rfl rfl rfl rfl ?_)))
    refine VO.go (VO.callV (fun Fr w => offered_spec Fr w) rfl (VO.go (VO.nil ?_)))
    exact VC.ret (Ret.bool 4 rfl rfl rfl Imp.nil.ent ⟨rfl, rfl⟩)
  · (repeat (first | refine VC.seq ?_ | refine VC.region ?_ | refine VC.block ?_ | refine VC.label ?_ | refine VC.scope ?_ | refine VO.go (VO.nil ?_) | refine VO.go (VO.ld 0 rfl rfl rfl rfl ?_)))
    refine VO.go (VO.callV (fun Fr w => offered_spec Fr w) rfl (VO.go (VO.nil ?_)))
    exact VC.ret (Ret.bool 4 rfl rfl rfl Imp.nil.ent ⟨rfl, rfl⟩)
  have hlen : l.length ≤ 60 := by omega
  (repeat (first | refine VC.seq ?_ | refine VC.region ?_ | refine VC.block ?_ | refine VC.label ?_ | refine VC.scope ?_ | refine VO.go (VO.nil ?_) | refine VO.go (VO.ld 0 rfl rfl rfl rfl ?_)))
  refine VO.go (VO.ldA 0 (c.cells ca cc) rfl rfl rfl rfl ?_)
  refine VO.go (VO.call (Lc := []) (fun Fr w hF hs _ => rfit_spec Fr w c ca cc (ints_of hq hF hs)) rfl rfl ?_)
  rintro _ _ ⟨a, cap, ha, hcap, rfl, rfl⟩
  refine VO.go (VO.stA (vs := (fitM c).cells a cap) (cs' := (fitM c).cells a cap) 1 rfl rfl rfl rfl (Nat.le_refl _) rfl rfl rfl (VO.go (VO.nil ?_)))
  (repeat (first | refine VC.seq ?_ | refine VC.region ?_ | refine VC.block ?_ | refine VC.label ?_ | refine VC.scope ?_ | refine VO.go (VO.nil ?_) | refine VO.go (VO.ld 0 rfl rfl rfl rfl ?_)))
  refine VO.go (VO.ldA 1 ((fitM c).cells a cap) rfl rfl rfl rfl ?_)
  refine VO.go (VO.call (Lc := []) (fun Fr w _ _ h2 => new_fit Fr w c a cap (ints_sl (h2.at_ 0 rfl)) ha hcap) rfl rfl ?_)
  rintro _ _ ⟨p, rfl, rfl⟩
  (repeat (first | refine VC.seq ?_ | refine VC.region ?_ | refine VC.block ?_ | refine VC.label ?_ | refine VC.scope ?_ | refine VO.go (VO.nil ?_) | refine VO.go (VO.ld 0 rfl rfl rfl rfl ?_)))
  refine VC.condNE rfl (fun h => absurd rfl h) (fun _ => VC.skip ?_)
  have hcl := (conf_new (fit_idem c)).2
  generalize hn : (fitM c).clients = nc at hcl
  refine VC.seq (VC.region (VO.go (VO.alloc rfl fun tb => VO.go (VO.nil ?_))))
  (repeat (first | refine VC.seq ?_ | refine VC.region ?_ | refine VC.block ?_ | refine VC.label ?_ | refine VC.scope ?_ | refine VO.go (VO.nil ?_) | refine VO.go (VO.ld 0 rfl rfl rfl rfl ?_)))
  refine VC.loop (σ := Nat × AdmM) (fun x => [(1, .slice la l.length lc), (2, .pointer (some ⟨cb, 0, none⟩)), (5, .pointer (some ⟨p, 0, none⟩)), (7, .pointer (some ⟨tb, 0, none⟩)), (8, .int .i64 x.1)]) (fun x => [admH p x.2, pt tb (flat markCs x.2.marks) 33, pt cb ((fitM c).cells a cap) 24]) (fun x => x.1 ≤ l.length ∧ x.2.Wf ∧ x.2.clients = nc) (fun x => l.length - x.1) (0, newA (fitM c)) ⟨Nat.zero_le _, newA_wf (fit_idem c), hn⟩ (Sub.cons rfl (Sub.cons rfl (Sub.cons rfl (Sub.cons rfl (Sub.cons rfl (Sub.nil _)))))) ?_ ?_
  · refine (Imp.pick 1 rfl ?_).ent
    refine Imp.pick 0 rfl ?_
    exact Imp.tl
  rintro ⟨i, A⟩ ⟨hi, hA, hAc⟩
  dsimp only at hi hA hAc ⊢
  (repeat (first | refine VC.seq ?_ | refine VC.region ?_ | refine VC.block ?_ | refine VC.label ?_ | refine VC.scope ?_ | refine VO.go (VO.nil ?_) | refine VO.go (VO.ld 0 rfl rfl rfl rfl ?_)))
  refine VC.condP rfl (fun h2 => VC.skip ?_) (fun h2 => VC.exit ?_)
  rotate_left
  · (repeat (first | refine VC.seq ?_ | refine VC.region ?_ | refine VC.block ?_ | refine VC.label ?_ | refine VC.scope ?_ | refine VO.go (VO.nil ?_) | refine VO.go (VO.ld 0 rfl rfl rfl rfl ?_) | refine VO.go (VO.ld 1 rfl rfl rfl rfl ?_) | refine VO.go (VO.ld 2 rfl rfl rfl rfl ?_)))
    have hno : A.has nc = false := by simp [AdmM.has, hAc]
    refine VO.go (VO.callAt 0 (ψ := fun v H => v = .int .i64 2 ∧ H = admH p A) rfl (fun Fr w _ _ _ => bar_spec Fr w p A nc 1 1) (by rw [← hn]; rfl) (fun v L1 h => ⟨_, h.2, by rw [h.1]; simp [AdmM.barM, hno], by simp [AdmM.barM, hno]⟩) ?_)
    rintro _ _ ⟨rfl, rfl⟩
    refine VO.go (VO.yes 145 true rfl rfl ?_)
    (repeat (first | refine VC.seq ?_ | refine VC.region ?_ | refine VC.block ?_ | refine VC.label ?_ | refine VC.scope ?_ | refine VO.go (VO.nil ?_) | refine VO.go (VO.ld 0 rfl rfl rfl rfl ?_) | refine VO.go (VO.ld 1 rfl rfl rfl rfl ?_) | refine VO.go (VO.ld 2 rfl rfl rfl rfl ?_)))
    refine VO.go (VO.callV' (fun Fr w hF _ hs => barred_spec Fr w nc 1 1 (hs.at_ 0 rfl)) (by rw [← hn]; rfl) ?_)
    refine VO.go (VO.yes 152 true rfl (by simp [AdmM.barred, hno]) ?_)
    refine VO.go (VO.callV (fun Fr w => offered_spec Fr w) rfl (VO.go (VO.nil ?_)))
    exact VC.ret (Ret.bool 4 rfl rfl rfl Imp.nil.ent ⟨rfl, rfl⟩)
  have hi2 : i < l.length := by omega
  obtain ⟨lb, lo, hla, hFl, hcell⟩ := hl.at_ (fun e => by rw [e] at hi2; simp at hi2)
  subst hla
  have hx := List.getElem?_eq_getElem hi2
  have hxb := hl.byte _ (List.getElem_mem hi2)
  generalize l[i] = x at hx hxb
  have hc := hcell i x hx
  refine VC.seq (VC.block ?_)
  refine VC.seq (VC.draw (ts 0 28 .nil) (by kernel_rfl) (by decide +kernel) ?_)
  (repeat (first | refine VA.go (VA.nil ?_) | refine VA.go (VA.ld 0 rfl rfl rfl rfl rfl ?_)))
  refine VA.go (VA.light rfl (light_idx i rfl rfl rfl rfl rfl rfl hi2) ?_)
  refine VA.go (VA.load rfl rfl rfl (RdL.rd (v := .int .u8 x.client) hFl (hc 0 _ rfl)) ?_)
  refine VA.go (VA.light rfl (light_conv x.client rfl rfl rfl rfl rfl (i64_small hxb.client.1 hxb.client.2)) ?_)
  refine VA.go (VA.ld 2 rfl rfl rfl rfl rfl ?_)
  refine VA.go (VA.light rfl (light_rem rfl rfl hxb.client.1 (by rw [hn]; omega)) ?_)
  (repeat (first | refine VA.go (VA.nil ?_) | refine VA.go (VA.ld 0 rfl rfl rfl rfl rfl ?_)))
  refine VA.go (VA.light rfl (light_idx i rfl rfl rfl rfl rfl rfl hi2) ?_)
  refine VA.go (VA.load rfl rfl rfl (RdL.rd (v := .int .u8 x.seq) hFl (hc 1 _ rfl)) ?_)
  refine VA.go (VA.light rfl (light_conv x.seq rfl rfl rfl rfl rfl (i64_small hxb.seq.1 hxb.seq.2)) ?_)
  refine VA.go (VA.light rfl (light_rem rfl rfl hxb.seq.1 (by omega)) ?_)
  refine VA.go (VA.add rfl rfl rfl (by omega) (by omega) ?_)
  (repeat (first | refine VA.go (VA.nil ?_) | refine VA.go (VA.ld 0 rfl rfl rfl rfl rfl ?_)))
  refine VA.go (VA.light rfl (light_idx i rfl rfl rfl rfl rfl rfl hi2) ?_)
  refine VA.go (VA.load rfl rfl rfl (RdL.rd (v := .int .u8 x.try_) hFl (hc 2 _ rfl)) ?_)
  refine VA.go (VA.light rfl (light_conv x.try_ rfl rfl rfl rfl rfl (i64_small hxb.try_.1 hxb.try_.2)) ?_)
  refine VA.go (VA.light rfl (light_rem rfl rfl hxb.try_.1 (by omega)) ?_)
  refine VA.go (VA.add rfl rfl rfl (by omega) (by omega) ?_)
  (repeat (first | refine VA.go (VA.nil ?_) | refine VA.go (VA.ld 0 rfl rfl rfl rfl rfl ?_)))
  have hk0 := Int.emod_nonneg x.client (show (fitM c).clients ≠ 0 by rw [hn]; omega)
  have hk1 := Int.emod_lt_of_pos x.client (show 0 < (fitM c).clients by rw [hn]; omega)
  have hs0 : 1 ≤ 1 + x.seq % 6 ∧ 1 + x.seq % 6 ≤ 6 := by omega
  have ht0 : 1 ≤ 1 + x.try_ % 5 ∧ 1 + x.try_ % 5 ≤ 5 := by omega
  generalize x.client % (fitM c).clients = kz at hk0 hk1 ⊢
  generalize 1 + x.seq % 6 = sq at hs0 ⊢
  generalize 1 + x.try_ % 5 = ty at ht0 ⊢
  obtain ⟨k, rfl⟩ := Int.eq_ofNat_of_zero_le hk0
  have hk6 : k < 6 := by rw [hn] at hk1; omega
  have hhas : A.has k = true := by simp [AdmM.has, hAc]; rw [hn] at hk1; omega
  have hbar : A.barM k sq ty = (0, A.barF k sq ty) := by
    have h1 : numM sq = true := by simp [numM]; omega
    have h2 : numM ty = true := by simp [numM]; omega
    simp [AdmM.barM, hhas, h1, h2]
  have hB := hA.barF k sq ty
  (repeat (first | refine VC.seq ?_ | refine VC.region ?_ | refine VC.block ?_ | refine VC.label ?_ | refine VC.scope ?_ | refine VO.go (VO.nil ?_) | refine VO.go (VO.ld 0 rfl rfl rfl rfl ?_)))
  refine VO.go (VO.callAt 0 (ψ := fun v H => v = .int .i64 0 ∧ H = admH p (A.barF k sq ty)) rfl (fun Fr w _ _ _ => bar_spec Fr w p A k sq ty) rfl (fun v L1 h => ⟨_, h.2, by rw [h.1, hbar], by rw [hbar]⟩) ?_)
  rintro _ _ ⟨rfl, rfl⟩
  refine VO.go (VO.nil ?_)
  refine VC.condNE rfl (fun h => absurd rfl h) (fun _ => VC.skip ?_)
  have hsz : (flat markCs A.marks).length = 12 := by rw [flat_len markCs_len, hA.marks]
  refine VC.meet (σ := Unit) (fun _ => [(1, .slice (some ⟨lb, lo, none⟩) l.length lc), (2, .pointer (some ⟨cb, 0, none⟩)), (5, .pointer (some ⟨p, 0, none⟩)), (7, .pointer (some ⟨tb, 0, none⟩)), (8, .int .i64 i)]) (fun _ => [admH p (A.barF k sq ty), pt tb (flat markCs (A.barF k sq ty).marks) 33, pt cb ((fitM c).cells a cap) 24]) (fun _ => True) ?_ ?_
  · refine VC.meet (σ := Unit) (fun _ => [(1, .slice (some ⟨lb, lo, none⟩) l.length lc), (2, .pointer (some ⟨cb, 0, none⟩)), (5, .pointer (some ⟨p, 0, none⟩)), (7, .pointer (some ⟨tb, 0, none⟩)), (8, .int .i64 i), (9, .int .i64 k), (10, .int .i64 sq), (11, .int .i64 ty), (92, .bool (aheadM (A.mark k) (sq, ty)))]) (fun _ => [admH p (A.barF k sq ty), pt tb (flat markCs A.marks) 33, pt cb ((fitM c).cells a cap) 24]) (fun _ => True) ?_ ?_
    · refine VC.region ?_
      refine VO.go (VO.light (light_idxA k rfl rfl rfl rfl rfl rfl hk6) ?_)
      refine VO.go (VO.light (light_idxA 0 rfl rfl rfl rfl rfl rfl (by omega)) ?_)
      refine VO.go (VO.ld 1 rfl rfl rfl (top_fst hA hk6) ?_)
      refine VO.go (VO.split 77 rfl rfl (fun h3 => ?_) (fun h3 => ?_))
      · iterate 6 refine VO.go (VO.offU rfl rfl rfl ?_)
        refine VO.go (VO.nil ?_)
        have e : aheadM (A.mark k) (sq, ty) = true := by simp only [aheadM, h3, Bool.true_or]
        rw [e]
        exact ⟨(), trivial, Sub.cons rfl (Sub.cons rfl (Sub.cons rfl (Sub.cons rfl (Sub.cons rfl (Sub.cons rfl (Sub.cons rfl (Sub.cons rfl (Sub.cons rfl (Sub.nil _))))))))), Ent.refl⟩
      · refine VO.go (VO.light (light_idxA k rfl rfl rfl rfl rfl rfl hk6) ?_)
        refine VO.go (VO.light (light_idxA 0 rfl rfl rfl rfl rfl rfl (by omega)) ?_)
        refine VO.go (VO.ld 1 rfl rfl rfl (top_fst hA hk6) ?_)
        refine VO.go (VO.split 84 rfl rfl (fun h4 => ?_) (fun h4 => VO.go (VO.nil ?_)))
        · refine VO.go (VO.light (light_idxA k rfl rfl rfl rfl rfl rfl hk6) ?_)
          refine VO.go (VO.light (light_idxA 1 rfl rfl rfl rfl rfl rfl (by omega)) ?_)
          refine VO.go (VO.ld 1 rfl rfl rfl (top_snd hA hk6) (VO.go (VO.nil ?_)))
          have e : aheadM (A.mark k) (sq, ty) = decide ((A.mark k).2 < ty) := by
            have h5 : (A.mark k).1 = sq := (eq_of_beq h4).symm
            simp only [aheadM, h3, h5, Bool.false_or, beq_self_eq_true, Bool.true_and]
            rw [show decide (sq < sq) = false from decide_eq_false (by omega), Bool.false_or]
          rw [e]
          exact ⟨(), trivial, Sub.cons rfl (Sub.cons rfl (Sub.cons rfl (Sub.cons rfl (Sub.cons rfl (Sub.cons rfl (Sub.cons rfl (Sub.cons rfl (Sub.cons rfl (Sub.nil _))))))))), Ent.refl⟩
        · have e : aheadM (A.mark k) (sq, ty) = false := by
            have h5 : ((A.mark k).1 == sq) = false := by
              rw [beq_eq_false_iff_ne] at h4 ⊢; exact fun e => h4 e.symm
            simp only [aheadM, h3, h5, Bool.false_or, Bool.false_and]
          rw [e]
          exact ⟨(), trivial, Sub.cons rfl (Sub.cons rfl (Sub.cons rfl (Sub.cons rfl (Sub.cons rfl (Sub.cons rfl (Sub.cons rfl (Sub.cons rfl (Sub.cons rfl (Sub.nil _))))))))), Ent.refl⟩
    intro _ _
    refine VC.cond rfl (fun h3 => ?_) (fun h3 => VC.skip ?_)
    · have e : A.barF k sq ty = A.setMark k (sq, ty) := by unfold AdmM.barF; rw [if_pos h3]
      rw [e]
      refine VC.region ?_
      refine VO.go (VO.light (light_buildArr (pv := [(0, .int .i64 sq), (1, .int .i64 ty)]) (markCs (sq, ty)) rfl rfl rfl rfl rfl) ?_)
      refine VO.go (VO.light (light_idxA k rfl rfl rfl rfl rfl rfl hk6) ?_)
      refine VO.go (VO.stA (vs := markCs (sq, ty)) (cs' := flat markCs (A.setMark k (sq, ty)).marks) 1 rfl rfl rfl rfl (by rw [hsz]; show 0 + k * 2 + 2 ≤ 12; omega) (top_set hA hk6 (sq, ty)) rfl rfl (VO.go (VO.nil ?_)))
      exact ⟨(), trivial, Sub.cons rfl (Sub.cons rfl (Sub.cons rfl (Sub.cons rfl (Sub.cons rfl (Sub.nil _))))), Ent.refl⟩
    · have e : A.barF k sq ty = A := by unfold AdmM.barF; rw [if_neg (by rw [h3]; simp)]
      rw [e]
      exact ⟨(), trivial, Sub.cons rfl (Sub.cons rfl (Sub.cons rfl (Sub.cons rfl (Sub.cons rfl (Sub.nil _))))), Ent.refl⟩
  intro _ _
  have hBc : (A.barF k sq ty).clients = nc := (barF_clients _ _ _ _).trans hAc
  generalize A.barF k sq ty = B at hB hBc ⊢
  (repeat (first | refine VC.seq ?_ | refine VC.region ?_ | refine VC.block ?_ | refine VC.label ?_ | refine VC.scope ?_ | refine VO.go (VO.nil ?_) | refine VO.go (VO.ld 0 rfl rfl rfl rfl ?_)))
  refine VC.loop (σ := Nat) (fun n => [(1, .slice (some ⟨lb, lo, none⟩) l.length lc), (2, .pointer (some ⟨cb, 0, none⟩)), (5, .pointer (some ⟨p, 0, none⟩)), (7, .pointer (some ⟨tb, 0, none⟩)), (8, .int .i64 i), (12, .int .i64 n)]) (fun _ => [admH p B, pt tb (flat markCs B.marks) 33, pt cb ((fitM c).cells a cap) 24]) (fun n => (n : Int) ≤ nc) (fun n => 6 - n) 0 (by show ((0 : Nat) : Int) ≤ nc; omega) (Sub.cons rfl (Sub.cons rfl (Sub.cons rfl (Sub.cons rfl (Sub.cons rfl (Sub.cons rfl (Sub.nil _))))))) Ent.refl ?_
  intro n hn1
  (repeat (first | refine VC.seq ?_ | refine VC.region ?_ | refine VC.block ?_ | refine VC.label ?_ | refine VC.scope ?_ | refine VO.go (VO.nil ?_) | refine VO.go (VO.ld 0 rfl rfl rfl rfl ?_) | refine VO.go (VO.ld 1 rfl rfl rfl rfl ?_) | refine VO.go (VO.ld 2 rfl rfl rfl rfl ?_)))
  refine VC.condP rfl (fun h3 => VC.skip ?_) (fun h3 => VC.exit ?_)
  rotate_left
  · (repeat (first | refine VC.seq ?_ | refine VC.region ?_ | refine VC.block ?_ | refine VC.label ?_ | refine VC.scope ?_ | refine VO.go (VO.nil ?_) | refine VO.go (VO.ld 0 rfl rfl rfl rfl ?_)))
    refine VO.go (VO.add rfl rfl (by omega) (by omega) ?_)
    (repeat (first | refine VC.seq ?_ | refine VC.region ?_ | refine VC.block ?_ | refine VC.label ?_ | refine VC.scope ?_ | refine VO.go (VO.nil ?_) | refine VO.go (VO.ld 0 rfl rfl rfl rfl ?_)))
    exact ⟨(i + 1, B), ⟨hi2, hB, hBc⟩, by dsimp only; omega, Sub.cons rfl (Sub.cons rfl (Sub.cons rfl (Sub.cons rfl (Sub.cons rfl (Sub.nil _))))), Ent.refl⟩
  have hn2 : (n : Int) < nc := by rw [hn] at h3; exact h3
  have hn6 : n < 6 := by omega
  have hhas : B.has n = true := by simp [AdmM.has, hBc]; omega
  (repeat (first | refine VC.seq ?_ | refine VC.region ?_ | refine VC.block ?_ | refine VC.label ?_ | refine VC.scope ?_ | refine VO.go (VO.nil ?_) | refine VO.go (VO.ld 0 rfl rfl rfl rfl ?_)))
  refine VC.loop (σ := Nat) (fun j => [(1, .slice (some ⟨lb, lo, none⟩) l.length lc), (2, .pointer (some ⟨cb, 0, none⟩)), (5, .pointer (some ⟨p, 0, none⟩)), (7, .pointer (some ⟨tb, 0, none⟩)), (8, .int .i64 i), (12, .int .i64 n), (13, .int .i64 ((j : Int) + 1))]) (fun _ => [admH p B, pt tb (flat markCs B.marks) 33, pt cb ((fitM c).cells a cap) 24]) (fun j => j ≤ 7) (fun j => 7 - j) 0 (Nat.zero_le _) (Sub.cons rfl (Sub.cons rfl (Sub.cons rfl (Sub.cons rfl (Sub.cons rfl (Sub.cons rfl (Sub.int rfl (by omega) (Sub.nil _)))))))) Ent.refl ?_
  intro j hj
  (repeat (first | refine VC.seq ?_ | refine VC.region ?_ | refine VC.block ?_ | refine VC.label ?_ | refine VC.scope ?_ | refine VO.go (VO.nil ?_) | refine VO.go (VO.ld 0 rfl rfl rfl rfl ?_)))
  refine VC.condP rfl (fun h4 => VC.skip ?_) (fun h4 => VC.exit ?_)
  rotate_left
  · (repeat (first | refine VC.seq ?_ | refine VC.region ?_ | refine VC.block ?_ | refine VC.label ?_ | refine VC.scope ?_ | refine VO.go (VO.nil ?_) | refine VO.go (VO.ld 0 rfl rfl rfl rfl ?_)))
    refine VO.go (VO.add rfl rfl (by omega) (by omega) ?_)
    (repeat (first | refine VC.seq ?_ | refine VC.region ?_ | refine VC.block ?_ | refine VC.label ?_ | refine VC.scope ?_ | refine VO.go (VO.nil ?_) | refine VO.go (VO.ld 0 rfl rfl rfl rfl ?_)))
    exact ⟨n + 1, (by show ((n + 1 : Nat) : Int) ≤ nc; omega), by dsimp only; omega, (Sub.cons rfl (Sub.cons rfl (Sub.cons rfl (Sub.cons rfl (Sub.cons rfl (Sub.int rfl (by push_cast; omega) (Sub.nil _))))))), Ent.refl⟩
  (repeat (first | refine VC.seq ?_ | refine VC.region ?_ | refine VC.block ?_ | refine VC.label ?_ | refine VC.scope ?_ | refine VO.go (VO.nil ?_) | refine VO.go (VO.ld 0 rfl rfl rfl rfl ?_)))
  refine VC.loop (σ := Nat) (fun m => [(1, .slice (some ⟨lb, lo, none⟩) l.length lc), (2, .pointer (some ⟨cb, 0, none⟩)), (5, .pointer (some ⟨p, 0, none⟩)), (7, .pointer (some ⟨tb, 0, none⟩)), (8, .int .i64 i), (12, .int .i64 n), (13, .int .i64 ((j : Int) + 1)), (14, .int .i64 ((m : Int) + 1))]) (fun _ => [admH p B, pt tb (flat markCs B.marks) 33, pt cb ((fitM c).cells a cap) 24]) (fun m => m ≤ 6) (fun m => 6 - m) 0 (Nat.zero_le _) (Sub.cons rfl (Sub.cons rfl (Sub.cons rfl (Sub.cons rfl (Sub.cons rfl (Sub.cons rfl (Sub.cons rfl (Sub.int rfl (by omega) (Sub.nil _))))))))) Ent.refl ?_
  intro m hm
  (repeat (first | refine VC.seq ?_ | refine VC.region ?_ | refine VC.block ?_ | refine VC.label ?_ | refine VC.scope ?_ | refine VO.go (VO.nil ?_) | refine VO.go (VO.ld 0 rfl rfl rfl rfl ?_)))
  refine VC.condP rfl (fun h5 => VC.skip ?_) (fun h5 => VC.exit ?_)
  rotate_left
  · (repeat (first | refine VC.seq ?_ | refine VC.region ?_ | refine VC.block ?_ | refine VC.label ?_ | refine VC.scope ?_ | refine VO.go (VO.nil ?_) | refine VO.go (VO.ld 0 rfl rfl rfl rfl ?_)))
    refine VO.go (VO.add rfl rfl (by omega) (by omega) ?_)
    (repeat (first | refine VC.seq ?_ | refine VC.region ?_ | refine VC.block ?_ | refine VC.label ?_ | refine VC.scope ?_ | refine VO.go (VO.nil ?_) | refine VO.go (VO.ld 0 rfl rfl rfl rfl ?_)))
    exact ⟨j + 1, (by show j + 1 ≤ 7; omega), by dsimp only; omega, (Sub.cons rfl (Sub.cons rfl (Sub.cons rfl (Sub.cons rfl (Sub.cons rfl (Sub.cons rfl (Sub.int rfl (by push_cast; omega) (Sub.nil _)))))))), Ent.refl⟩
  have hend : (fun m : Nat => m ≤ 6) (m + 1) := by show m + 1 ≤ 6; omega
  refine VC.seq (VC.block ?_)
  refine VC.seq (VC.draw (ts 0 4 (ts 5 6 (.only 4 (ts 11 17 .nil)))) (by kernel_rfl) (by decide +kernel) ?_)
  (repeat (first | refine VA.go (VA.nil ?_) | refine VA.go (VA.ld 0 rfl rfl rfl rfl rfl ?_)))
  refine VA.go (VA.light rfl (light_idxA n rfl rfl rfl rfl rfl rfl hn6) ?_)
  refine VA.go (VA.light rfl (light_idxA 0 rfl rfl rfl rfl rfl rfl (by omega)) ?_)
  refine VA.go (VA.ld 1 rfl rfl rfl rfl (top_fst hB hn6) ?_)
  refine VA.go (VA.callP (φ := fun v => v = .bool (B.barred n ((j : Int) + 1) ((m : Int) + 1))) (fun Fr w hF _ hs => barred_spec Fr w _ _ _ (hs.at_ 0 rfl)) rfl rfl (by (try refine Pd.st ?_); (repeat (first | exact Pd.nil | exact Pd.fnil | refine Pd.inner ?_ | refine Pd.skip (by decide +kernel) ?_ | refine Pd.fcons (RdL.one 0 rfl rfl) ?_ | refine Pd.fcons (RdL.one 1 rfl rfl) ?_ | refine Pd.fcons (RdL.many 0 rfl rfl) ?_ | refine Pd.fcons (RdL.many 1 rfl rfl) ?_ | refine Pd.fcons (RdL.blk (RdL.one 1 rfl (top_fst hB hn6)) rfl) ?_ | refine Pd.fcons ((RdL.one 1 rfl (top_fst hB hn6))) ?_ | refine Pd.cons (RdL.one 0 rfl rfl) ?_ | refine Pd.cons (RdL.one 1 rfl rfl) ?_ | refine Pd.cons (RdL.many 0 rfl rfl) ?_ | refine Pd.cons (RdL.many 1 rfl rfl) ?_ | refine Pd.cons (RdL.blk (RdL.one 1 rfl (top_fst hB hn6)) rfl) ?_ | refine Pd.cons ((RdL.one 1 rfl (top_fst hB hn6))) ?_))) ?_)
  rintro _ rfl
  refine VA.go (VA.split 123 rfl rfl (fun h6 => ?_) (fun h6 => ?_))
  · iterate 6 refine VA.go (VA.offU rfl rfl rfl rfl ?_)
    (repeat (first | refine VA.go (VA.nil ?_) | refine VA.go (VA.ld 0 rfl rfl rfl rfl rfl ?_)))
    refine VC.cond rfl (fun h => ?_) (fun _ => VC.skip ?_)
    · rw [barred_eq hhas, h6] at h
      simp at h
    (repeat (first | refine VC.seq ?_ | refine VC.region ?_ | refine VC.block ?_ | refine VC.label ?_ | refine VC.scope ?_ | refine VO.go (VO.nil ?_) | refine VO.go (VO.ld 0 rfl rfl rfl rfl ?_)))
    refine VO.go (VO.add rfl rfl (by omega) (by omega) ?_)
    (repeat (first | refine VC.seq ?_ | refine VC.region ?_ | refine VC.block ?_ | refine VC.label ?_ | refine VC.scope ?_ | refine VO.go (VO.nil ?_) | refine VO.go (VO.ld 0 rfl rfl rfl rfl ?_)))
    exact ⟨m + 1, hend, by dsimp only; omega, (Sub.cons rfl (Sub.cons rfl (Sub.cons rfl (Sub.cons rfl (Sub.cons rfl (Sub.cons rfl (Sub.cons rfl (Sub.int rfl (by push_cast; omega) (Sub.nil _))))))))), Ent.refl⟩
  refine VA.go (VA.light rfl (light_idxA n rfl rfl rfl rfl rfl rfl hn6) ?_)
  refine VA.go (VA.light rfl (light_idxA 0 rfl rfl rfl rfl rfl rfl (by omega)) ?_)
  refine VA.go (VA.ld 1 rfl rfl rfl rfl (top_fst hB hn6) ?_)
  refine VA.go (VA.split 130 rfl rfl (fun h7 => ?_) (fun h7 => ?_))
  · refine VA.go (VA.light rfl (light_idxA n rfl rfl rfl rfl rfl rfl hn6) ?_)
    refine VA.go (VA.light rfl (light_idxA 1 rfl rfl rfl rfl rfl rfl (by omega)) ?_)
    refine VA.go (VA.ld 1 rfl rfl rfl rfl (top_snd hB hn6) ?_)
    (repeat (first | refine VA.go (VA.nil ?_) | refine VA.go (VA.ld 0 rfl rfl rfl rfl rfl ?_)))
    refine VC.cond rfl (fun h => ?_) (fun _ => VC.skip ?_)
    · rw [barred_eq hhas, h6, h7] at h
      simp at h
    (repeat (first | refine VC.seq ?_ | refine VC.region ?_ | refine VC.block ?_ | refine VC.label ?_ | refine VC.scope ?_ | refine VO.go (VO.nil ?_) | refine VO.go (VO.ld 0 rfl rfl rfl rfl ?_)))
    refine VO.go (VO.add rfl rfl (by omega) (by omega) ?_)
    (repeat (first | refine VC.seq ?_ | refine VC.region ?_ | refine VC.block ?_ | refine VC.label ?_ | refine VC.scope ?_ | refine VO.go (VO.nil ?_) | refine VO.go (VO.ld 0 rfl rfl rfl rfl ?_)))
    exact ⟨m + 1, hend, by dsimp only; omega, (Sub.cons rfl (Sub.cons rfl (Sub.cons rfl (Sub.cons rfl (Sub.cons rfl (Sub.cons rfl (Sub.cons rfl (Sub.int rfl (by push_cast; omega) (Sub.nil _))))))))), Ent.refl⟩
  · (repeat (first | refine VA.go (VA.nil ?_) | refine VA.go (VA.ld 0 rfl rfl rfl rfl rfl ?_)))
    refine VC.cond rfl (fun h => ?_) (fun _ => VC.skip ?_)
    · rw [barred_eq hhas, h6, h7] at h
      simp at h
    (repeat (first | refine VC.seq ?_ | refine VC.region ?_ | refine VC.block ?_ | refine VC.label ?_ | refine VC.scope ?_ | refine VO.go (VO.nil ?_) | refine VO.go (VO.ld 0 rfl rfl rfl rfl ?_)))
    refine VO.go (VO.add rfl rfl (by omega) (by omega) ?_)
    (repeat (first | refine VC.seq ?_ | refine VC.region ?_ | refine VC.block ?_ | refine VC.label ?_ | refine VC.scope ?_ | refine VO.go (VO.nil ?_) | refine VO.go (VO.ld 0 rfl rfl rfl rfl ?_)))
    exact ⟨m + 1, hend, by dsimp only; omega, (Sub.cons rfl (Sub.cons rfl (Sub.cons rfl (Sub.cons rfl (Sub.cons rfl (Sub.cons rfl (Sub.cons rfl (Sub.int rfl (by push_cast; omega) (Sub.nil _))))))))), Ent.refl⟩
end Go.Proofs.Ytoinocihlfmnnaa.Adm
