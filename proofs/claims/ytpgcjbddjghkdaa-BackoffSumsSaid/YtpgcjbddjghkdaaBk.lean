/- The contracts of the functions of backoff and of its reference: what each computes, in plain Lean. -/
import Derived.Test.YtpgcjbddjghkdaaVgC
import Derived.Test.YtpgcjbddjghkdaaRows
import Derived.KernelRfl
namespace Go.Proofs.Ytpgcjbddjghkdaa.Bk
open Go Go.Proofs.Ytpgcjbddjghkdaa.Vg
attribute [local irreducible] VO VC

def tab : Tab := [(3, ⟨.int .i64, 1, 8, .int .i64 0⟩), (4, ⟨.bool, 1, 1, .bool false⟩)]
theorem tabOk : TabOk Try.prog tab := by
  intro p hp
  simp only [tab, List.mem_cons, List.not_mem_nil, or_false] at hp
  rcases hp with rfl | rfl
  · exact ⟨by kernel_rfl, by kernel_rfl, rfl⟩
  · exact ⟨by kernel_rfl, by kernel_rfl, rfl⟩

def most (m : Int) : Int := if m < 0 then 0 else if 64 < m then 64 else m
def pw (t : Int) : Int := if t = 1 then 1 else if t = 2 then 2 else if t = 3 then 4 else if t = 4 then 8 else if t = 5 then 16 else if t = 6 then 32 else 64
def gap (t m : Int) : Int := if t < 1 then 0 else if pw t < most m then pw t else most m

theorem most_bd (m : Int) : 0 ≤ most m ∧ most m ≤ 64 := by unfold most; split <;> (try split) <;> omega
theorem gap_bd (t m : Int) : 0 ≤ gap t m ∧ gap t m ≤ 64 := by
  have := most_bd m
  unfold gap; split
  · omega
  · unfold pw; repeat' split
    all_goals omega

theorem gap_spec (Fr : Nat → Prop) (w : World) (t m : Int) : Tri Try.prog 10 [.int .i64 t, .int .i64 m] Fr w [] (fun v L => v = .int .i64 (gap t m) ∧ L = []) := by
  refine Tri.of 18 Try.func10 rfl (by kernel_rfl) tabOk rfl rfl ?_
  refine VC.seq (VC.region (VO.go (VO.nil ?_)))
  refine VC.seq (VC.seq (VC.region (VO.go (VO.nil ?_))))
  refine VC.condP rfl (fun h => ?_) (fun h => ?_)
  · refine VC.seq (VC.region (VO.go (VO.nil (VC.ret ?_))))
    exact Ret.tmp 4 rfl rfl Ent.refl ⟨by simp [gap, h], rfl⟩
  · refine VC.skip (VC.seq (VC.region (VO.go (VO.nil ?_))))
    have hm : (if 64 < (if m < 0 then 0 else m) then 64 else (if m < 0 then 0 else m)) = most m := by
      unfold most; repeat' split
      all_goals omega
    refine VC.seq (VC.seq (VC.region (VO.go (VO.nil ?_))))
    refine VC.condP rfl (fun h7 => ?_) (fun h7 => ?_)
    · refine VC.seq (VC.region (VO.go (VO.nil (VC.ret ?_))))
      refine Ret.int 4 rfl rfl (hm.trans ?_) Ent.refl ⟨rfl, rfl⟩
      have := most_bd m
      rw [gap, if_neg h, if_neg]
      simp only [pw]; repeat' split
      all_goals omega
    · refine VC.skip (VC.seq (VC.region (VO.go ?_)))
      refine VO.sub' rfl rfl (by omega) (by omega) (VO.go ?_)
      have h4 : t = 1 ∨ t = 2 ∨ t = 3 ∨ t = 4 ∨ t = 5 ∨ t = 6 ∨ t = 7 := by omega
      refine VO.light (light_shl (pw t) rfl rfl (by omega) (by omega) ?_) (VO.go (VO.nil (VC.ret ?_)))
      · rcases h4 with rfl | rfl | rfl | rfl | rfl | rfl | rfl <;> rfl
      · refine Ret.int 4 rfl rfl ?_ Ent.refl ⟨rfl, rfl⟩
        rw [hm, gap, if_neg h]
        repeat' split
        all_goals omega

theorem pw_succ (i : Int) (h1 : 1 ≤ i) (h6 : i ≤ 6) : pw (i + 1) = 2 * pw i := by
  have h : i = 1 ∨ i = 2 ∨ i = 3 ∨ i = 4 ∨ i = 5 ∨ i = 6 := by omega
  rcases h with rfl | rfl | rfl | rfl | rfl | rfl <;> rfl
theorem pw_bd (i : Int) : 1 ≤ pw i ∧ pw i ≤ 64 := by unfold pw; repeat' split
                                                     all_goals omega
theorem pw_mono (i j : Int) (h1 : 1 ≤ i) (h : i ≤ j) : pw i ≤ pw j := by
  unfold pw; repeat' split
  all_goals omega

theorem rgap_spec (Fr : Nat → Prop) (w : World) (t m : Int) (ht : t ≤ 9223372036854775807) : Tri Try.prog 11 [.int .i64 t, .int .i64 m] Fr w [] (fun v L => v = .int .i64 (gap t m) ∧ L = []) := by
  refine Tri.of 30 Try.func11 rfl (by kernel_rfl) tabOk rfl rfl ?_
  refine VC.seq (VC.region (VO.go (VO.nil ?_)))
  refine VC.meet (σ := Int) (fun M => [(0, .int .i64 t), (1, .int .i64 M)]) (fun _ => []) (fun M => M = if 64 < m then 64 else m) ?_ ?_
  · refine VC.seq (VC.region (VO.go (VO.nil ?_)))
    refine VC.condP rfl (fun h => VC.region (VO.go (VO.nil ?_))) (fun h => VC.skip ?_)
    · exact ⟨_, rfl, Sub.cons rfl (Sub.int rfl (by rw [if_pos h]) (Sub.nil _)), Ent.refl⟩
    · exact ⟨_, rfl, Sub.cons rfl (Sub.int rfl (by rw [if_neg h]) (Sub.nil _)), Ent.refl⟩
  intro M hM
  refine VC.seq (VC.seq (VC.region (VO.go (VO.split 11 rfl rfl (fun hb => VO.go (VO.nil ?_)) (fun hb => VO.go (VO.nil ?_))))))
  · refine VC.condT rfl (VC.seq (VC.region (VO.go (VO.nil (VC.ret ?_)))))
    have hb := of_decide_eq_true hb
    exact Ret.int 4 rfl rfl (by rw [gap, if_pos hb]) Ent.refl ⟨rfl, rfl⟩
  have hb := of_decide_eq_false hb
  refine VC.condP rfl (fun h0 => ?_) (fun h0 => VC.skip ?_)
  · refine VC.seq (VC.region (VO.go (VO.nil (VC.ret ?_))))
    refine Ret.int 4 rfl rfl ?_ Ent.refl ⟨rfl, rfl⟩
    have h0' : m < 0 := by
      rw [hM] at h0; split at h0 <;> omega
    have : most m = 0 := by unfold most; rw [if_pos h0']
    have := pw_bd t
    rw [gap, if_neg hb]; split <;> omega
  have hM' : M = most m := by
    rw [hM] at h0 ⊢; unfold most; repeat' split at h0
    all_goals repeat' split
    all_goals omega
  have hbd := most_bd m
  rw [← hM'] at hbd
  refine VC.seq (VC.region (VO.go (VO.nil (VC.seq (VC.seq (VC.region (VO.go (VO.nil ?_))))))))
  refine VC.block (VC.loop (σ := Int) (fun i => [(0, .int .i64 t), (1, .int .i64 M), (5, .int .i64 (pw i)), (6, .int .i64 i)]) (fun _ => [])
    (fun i => 1 ≤ i ∧ i ≤ t ∧ i ≤ 7 ∧ (i = 1 ∨ pw (i - 1) < M)) (fun i => (10 - i).toNat) 1 ⟨by omega, by omega, by omega, .inl rfl⟩ (Sub.cons rfl (Sub.cons rfl (Sub.cons rfl (Sub.cons rfl (Sub.nil _))))) Ent.refl ?_)
  rintro i ⟨h1, h2, h7, hp⟩
  refine VC.seq (VC.seq (VC.region (VO.go (VO.split 18 rfl rfl (fun hc => VO.go (VO.nil ?_)) (fun hc => VO.go (VO.nil ?_))))))
  · have hc := of_decide_eq_true hc
    refine VC.condP rfl (fun hg => VC.skip ?_) (fun hg => VC.exit ?_)
    · refine VC.seq (VC.block (VC.region (VO.go ?_)))
      have hpb := pw_bd i
      refine VO.mul rfl rfl (by omega) (by omega) (VO.go (VO.nil (VC.region (VO.go ?_))))
      refine VO.add rfl rfl (by omega) (by omega) (VO.go (VO.nil ?_))
      have h6 : i ≤ 6 := by
        rcases Int.lt_or_le i 7 with h | h
        · omega
        · have := pw_mono 7 i (by omega) h
          have e7 : pw 7 = 64 := rfl
          omega
      exact ⟨i + 1, ⟨by omega, by omega, by omega, .inr (by simpa using hg)⟩, by dsimp only; omega, Sub.cons rfl (Sub.cons rfl (Sub.int rfl (pw_succ i h1 h6).symm (Sub.cons rfl (Sub.nil _)))), Ent.refl⟩
    · refine VC.seq (VC.region (VO.go (VO.nil (VC.ret ?_))))
      refine Ret.int 4 rfl rfl ?_ Ent.refl ⟨rfl, rfl⟩
      have := pw_mono i t h1 h2
      rw [gap, if_neg hb]; repeat' split
      all_goals omega
  · have hc := of_decide_eq_false hc
    refine VC.condF rfl (VC.exit ?_)
    refine VC.seq (VC.region (VO.go (VO.nil (VC.ret ?_))))
    refine Ret.int 4 rfl rfl ?_ Ent.refl ⟨rfl, rfl⟩
    have : i = t := by omega
    subst this
    rw [gap, if_neg hb]; repeat' split
    all_goals omega

/-- the sum of the first n -/
def gs (m : Int) : Nat → Int
  | 0 => 0
  | n + 1 => gs m n + gap (n + 1) m
def sm (i m : Int) : Int := gs m i.toNat
theorem sm_0 (m : Int) : sm 0 m = 0 := rfl
theorem sm_succ (i m : Int) (h : 0 ≤ i) : sm (i + 1) m = sm i m + gap (i + 1) m := by
  unfold sm
  rw [show (i + 1).toNat = i.toNat + 1 from by omega, gs, show ((i.toNat : Int) + 1) = i + 1 from by omega]
theorem gs_bd (m : Int) : ∀ n, 0 ≤ gs m n ∧ gs m n ≤ 64 * n
  | 0 => by simp [gs]
  | n + 1 => by have := gs_bd m n; have := gap_bd (n + 1) m; simp only [gs]; omega
theorem sm_bd (i m : Int) (h : 0 ≤ i) : 0 ≤ sm i m ∧ sm i m ≤ 64 * i := by have := gs_bd m i.toNat; unfold sm; omega

def cut (t : Int) : Int := if 1099511627776 < t then 1099511627776 else t
def sum (t m : Int) : Int := if cut t < 1 then 0 else if 7 < cut t then sm 7 m + (cut t - 7) * most m else sm (cut t) m
theorem gap_big (t m : Int) (h : 6 < t) : gap t m = most m := by
  have := most_bd m
  have h7 : pw t = 64 := by unfold pw; repeat' split
                            all_goals omega
  rw [gap, h7]; repeat' split
  all_goals omega

theorem sum_spec (Fr : Nat → Prop) (w : World) (t m : Int) (ht : -9223372036854775808 ≤ t) : Tri Try.prog 12 [.int .i64 t, .int .i64 m] Fr w [] (fun v L => v = .int .i64 (sum t m) ∧ L = []) := by
  refine Tri.of 31 Try.func12 rfl (by kernel_rfl) tabOk rfl rfl ?_
  refine VC.seq (VC.region (VO.go (VO.nil (VC.seq (VC.region (VO.go (VO.nil ?_)))))))
  have hcut : (if 1099511627776 < t then 1099511627776 else t) = cut t := rfl
  have hc1 : cut t ≤ 1099511627776 := by unfold cut; split <;> omega
  have hc2 : -9223372036854775808 ≤ cut t := by unfold cut; split <;> omega
  have hct : sum t m = if cut t < 1 then 0 else if 7 < cut t then sm 7 m + (cut t - 7) * most m else sm (cut t) m := rfl
  generalize cut t = c at *
  refine VC.seq (VC.region (VO.go (VO.nil (VC.meet (σ := Int) (fun s => [(0, .int .i64 c), (1, .int .i64 m), (5, .int .i64 s)]) (fun _ => []) (fun s => s = if c < 1 then 0 else if 7 < c then sm 7 m else sm c m) ?_ ?_))))
  · refine VC.seq (VC.region (VO.go (VO.nil ?_)))
    refine VC.block (VC.loop (σ := Int) (fun i => [(0, .int .i64 c), (1, .int .i64 m), (5, .int .i64 (sm i m)), (6, .int .i64 (i + 1))]) (fun _ => [])
      (fun i => 0 ≤ i ∧ i ≤ 7 ∧ (i = 0 ∨ i ≤ c)) (fun i => (10 - i).toNat) 0 ⟨by omega, by omega, .inl rfl⟩ (Sub.int rfl hcut (Sub.cons rfl (Sub.int rfl (sm_0 m).symm (Sub.int rfl rfl (Sub.nil _))))) Ent.refl ?_)
    rintro i ⟨h1, h2, h3⟩
    have hb := sm_bd i m h1
    have hg := gap_bd (i + 1) m
    refine VC.seq (VC.seq (VC.region (VO.go (VO.nil ?_))))
    refine VC.condP rfl (fun h => VC.skip ?_) (fun h => VC.exit ?_)
    · have h' : i + 1 ≤ 7 ∧ i + 1 ≤ c := by split at h <;> omega
      refine VC.seq (VC.block (VC.region (VO.go ?_)))
      refine VO.callV (fun Fr' w => gap_spec Fr' w (i + 1) m) rfl (VO.go ?_)
      refine VO.add rfl rfl (by omega) (by omega) (VO.go (VO.nil (VC.region (VO.go ?_))))
      refine VO.add rfl rfl (by omega) (by omega) (VO.go (VO.nil ?_))
      exact ⟨i + 1, ⟨by omega, by omega, .inr (by omega)⟩, by dsimp only; omega, Sub.cons rfl (Sub.cons rfl (Sub.int rfl (sm_succ i m h1).symm (Sub.cons rfl (Sub.nil _)))), Ent.refl⟩
    · refine ⟨_, ?_, Sub.cons rfl (Sub.cons rfl (Sub.int rfl rfl (Sub.nil _))), Ent.refl⟩
      by_cases hc : c < 1
      · have : i = 0 := by omega
        subst this; rw [if_pos hc]; rfl
      · rw [if_neg hc]
        by_cases h7 : 7 < c
        · rw [if_pos h7] at h ⊢
          have : i = 7 := by omega
          rw [this]
        · rw [if_neg h7] at h ⊢
          have : i = c := by omega
          rw [this]
  intro s hs
  have h7b := sm_bd 7 m (by omega)
  have hmb := most_bd m
  refine VC.seq (VC.seq (VC.region (VO.go (VO.nil ?_))))
  refine VC.condP rfl (fun h => VC.region (VO.go ?_)) (fun h => VC.skip ?_)
  · have hs' : s = sm 7 m := by rw [hs, if_neg (by omega), if_pos h]
    have hp : (c - 7) * most m ≤ 1099511627776 * 64 := Int.mul_le_mul (by omega) hmb.2 hmb.1 (by omega)
    have hp0 : 0 ≤ (c - 7) * most m := Int.mul_nonneg (by omega) hmb.1
    refine VO.sub' rfl rfl (by omega) (by omega) (VO.go ?_)
    refine VO.callV (fun Fr' w => gap_spec Fr' w c m) rfl (VO.go ?_)
    rw [gap_big c m (by omega)]
    refine VO.mul rfl rfl (by omega) (by omega) (VO.go ?_)
    refine VO.add rfl rfl (by omega) (by omega) (VO.go (VO.nil ?_))
    refine VC.seq (VC.region (VO.go (VO.nil (VC.ret ?_))))
    exact Ret.int 4 rfl rfl (by rw [hct, if_neg (by omega), if_pos h, hs']) Ent.refl ⟨rfl, rfl⟩
  · refine VC.seq (VC.region (VO.go (VO.nil (VC.ret ?_))))
    refine Ret.int 4 rfl rfl ?_ Ent.refl ⟨rfl, rfl⟩
    rw [hct, hs]; repeat' split
    all_goals omega

theorem rsum_spec (Fr : Nat → Prop) (w : World) (t m : Int) (ht : -9223372036854775808 ≤ t) : Tri Try.prog 13 [.int .i64 t, .int .i64 m] Fr w [] (fun v L => v = .int .i64 (sum t m) ∧ L = []) := by
  refine Tri.of 33 Try.func13 rfl (by kernel_rfl) tabOk rfl rfl ?_
  refine VC.seq (VC.region (VO.go (VO.nil ?_)))
  refine VC.meet (σ := Int) (fun M => [(0, .int .i64 M), (1, .int .i64 m)]) (fun _ => []) (fun M => M = cut t) ?_ ?_
  · refine VC.seq (VC.region (VO.go (VO.nil ?_)))
    refine VC.condP rfl (fun h => VC.region (VO.go (VO.nil ?_))) (fun h => VC.skip ?_)
    · exact ⟨_, rfl, Sub.int rfl (by rw [cut, if_pos h]) (Sub.cons rfl (Sub.nil _)), Ent.refl⟩
    · exact ⟨_, rfl, Sub.int rfl (by rw [cut, if_neg h]) (Sub.cons rfl (Sub.nil _)), Ent.refl⟩
  rintro c hc
  have hc1 : c ≤ 1099511627776 := by rw [hc]; unfold cut; split <;> omega
  have hc2 : -9223372036854775808 ≤ c := by rw [hc]; unfold cut; split <;> omega
  have hct : sum t m = if c < 1 then 0 else if 7 < c then sm 7 m + (c - 7) * most m else sm c m := by rw [hc]; rfl
  clear hc
  refine VC.seq (VC.region (VO.go (VO.nil (VC.meet (σ := Int) (fun s => [(0, .int .i64 c), (1, .int .i64 m), (5, .int .i64 s)]) (fun _ => []) (fun s => s = if c < 1 then 0 else if 8 < c then sm 8 m else sm c m) ?_ ?_))))
  · refine VC.seq (VC.region (VO.go (VO.nil ?_)))
    refine VC.block (VC.loop (σ := Int) (fun i => [(0, .int .i64 c), (1, .int .i64 m), (5, .int .i64 (sm i m)), (6, .int .i64 (i + 1))]) (fun _ => [])
      (fun i => 0 ≤ i ∧ i ≤ 8 ∧ (i = 0 ∨ i ≤ c)) (fun i => (10 - i).toNat) 0 ⟨by omega, by omega, .inl rfl⟩ (Sub.int rfl rfl (Sub.cons rfl (Sub.int rfl (sm_0 m).symm (Sub.int rfl rfl (Sub.nil _))))) Ent.refl ?_)
    rintro i ⟨h1, h2, h3⟩
    have hb := sm_bd i m h1
    have hg := gap_bd (i + 1) m
    have fin : (¬ i + 1 ≤ c ∨ ¬ i + 1 ≤ 8) → sm i m = if c < 1 then 0 else if 8 < c then sm 8 m else sm c m := by
      intro h
      by_cases hc : c < 1
      · have : i = 0 := by omega
        subst this; rw [if_pos hc]; rfl
      · rw [if_neg hc]
        by_cases h8 : 8 < c
        · rw [if_pos h8]
          have : i = 8 := by omega
          rw [this]
        · rw [if_neg h8]
          have : i = c := by omega
          rw [this]
    refine VC.seq (VC.seq (VC.region (VO.go (VO.split 12 rfl rfl (fun hb => VO.go (VO.nil ?_)) (fun hb => VO.go (VO.nil ?_))))))
    · have hb := of_decide_eq_true hb
      refine VC.condP rfl (fun h => VC.skip ?_) (fun h => VC.exit ?_)
      · refine VC.seq (VC.block (VC.region (VO.go ?_)))
        refine VO.callV (fun Fr' w => rgap_spec Fr' w (i + 1) m (by omega)) rfl (VO.go ?_)
        refine VO.add rfl rfl (by omega) (by omega) (VO.go (VO.nil (VC.region (VO.go ?_))))
        refine VO.add rfl rfl (by omega) (by omega) (VO.go (VO.nil ?_))
        exact ⟨i + 1, ⟨by omega, by omega, .inr (by omega)⟩, by dsimp only; omega, Sub.cons rfl (Sub.cons rfl (Sub.int rfl (sm_succ i m h1).symm (Sub.cons rfl (Sub.nil _)))), Ent.refl⟩
      · exact ⟨_, fin (.inr h), Sub.cons rfl (Sub.cons rfl (Sub.int rfl rfl (Sub.nil _))), Ent.refl⟩
    · have hb := of_decide_eq_false hb
      refine VC.condF rfl (VC.exit ?_)
      exact ⟨_, fin (.inl hb), Sub.cons rfl (Sub.cons rfl (Sub.int rfl rfl (Sub.nil _))), Ent.refl⟩
  intro s hs
  have h8b := sm_bd 8 m (by omega)
  have h8 : sm 8 m = sm 7 m + gap 8 m := sm_succ 7 m (by omega)
  rw [gap_big 8 m (by omega)] at h8
  have hmb := most_bd m
  refine VC.seq (VC.seq (VC.region (VO.go (VO.nil ?_))))
  refine VC.condP rfl (fun h => VC.region (VO.go ?_)) (fun h => VC.skip ?_)
  · have hs' : s = sm 8 m := by rw [hs, if_neg (by omega), if_pos h]
    have hp : (c - 8) * most m ≤ 1099511627776 * 64 := Int.mul_le_mul (by omega) hmb.2 hmb.1 (by omega)
    have hp0 : 0 ≤ (c - 8) * most m := Int.mul_nonneg (by omega) hmb.1
    refine VO.sub' rfl rfl (by omega) (by omega) (VO.go ?_)
    refine VO.callV (fun Fr' w => rgap_spec Fr' w 9 m (by omega)) rfl (VO.go ?_)
    rw [gap_big 9 m (by omega)]
    refine VO.mul rfl rfl (by omega) (by omega) (VO.go ?_)
    refine VO.add rfl rfl (by omega) (by omega) (VO.go (VO.nil ?_))
    refine VC.seq (VC.region (VO.go (VO.nil (VC.ret ?_))))
    refine Ret.int 4 rfl rfl ?_ Ent.refl ⟨rfl, rfl⟩
    rw [hct, if_neg (by omega), if_pos (by omega), hs', h8, show c - 8 = (c - 7) - 1 from by omega, Int.sub_mul]; omega
  · refine VC.seq (VC.region (VO.go (VO.nil (VC.ret ?_))))
    refine Ret.int 4 rfl rfl ?_ Ent.refl ⟨rfl, rfl⟩
    rw [hct, hs]
    by_cases h1 : c < 1
    · rw [if_pos h1, if_pos h1]
    · rw [if_neg h1, if_neg h1, if_neg h]
      by_cases h7 : 7 < c
      · rw [if_pos h7]
        have : c = 8 := by omega
        subst this; rw [h8]; omega
      · rw [if_neg h7]

theorem gaps_spec (Fr : Nat → Prop) (w : World) : Tri Try.prog 14 [] Fr w [] (fun v L => v = .bool true ∧ L = []) := by
  refine Tri.of 23 Try.func14 rfl (by kernel_rfl) tabOk rfl rfl ?_
  refine VC.seq (VC.region (VO.go (VO.nil (VC.seq (VC.region (VO.go ?_))))))
  refine VO.callV (fun Fr' w => gap_spec Fr' w 1 5) rfl (VO.go (VO.yes 3 true rfl (by decide) (VO.go ?_)))
  refine VO.callV (fun Fr' w => gap_spec Fr' w 2 5) rfl (VO.go (VO.yes 7 true rfl (by decide) (VO.go ?_)))
  refine VO.callV (fun Fr' w => gap_spec Fr' w 4 5) rfl (VO.go (VO.yes 11 true rfl (by decide) (VO.go ?_)))
  refine VO.callV (fun Fr' w => gap_spec Fr' w 9 100) rfl (VO.go (VO.yes 15 true rfl (by decide) (VO.go ?_)))
  refine VO.callV (fun Fr' w => sum_spec Fr' w 4 5 (by omega)) rfl (VO.go (VO.yes 19 true rfl (by decide) (VO.go ?_)))
  refine VO.callV (fun Fr' w => sum_spec Fr' w 3 0 (by omega)) rfl (VO.go (VO.nil (VC.ret ?_)))
  exact Ret.bool 0 rfl rfl rfl Ent.refl ⟨rfl, rfl⟩

/-- what the law's round asks -/
theorem tell_spec (Fr : Nat → Prop) (w : World) (t m : Int) (ht : -9223372036854775808 ≤ t) (ht' : t ≤ 9223372036854775807) :
    Tri Try.prog 3 [.int .i64 t, .int .i64 m] Fr w [] (fun v L => v = .bool true ∧ L = []) := by
  refine Tri.of 54 Try.func3 rfl (by kernel_rfl) tabOk rfl rfl ?_
  refine VC.seq (VC.region (VO.go (VO.nil (VC.seq (VC.seq (VC.region (VO.go (VO.nil ?_))))))))
  refine VC.block (VC.loop (σ := Int) (fun i => [(0, .int .i64 t), (1, .int .i64 m), (5, .int .i64 i)]) (fun _ => [])
    (fun i => -1 ≤ i ∧ i ≤ 20) (fun i => (20 - i).toNat) (-1) ⟨by omega, by omega⟩ (Sub.cons rfl (Sub.cons rfl (Sub.cons rfl (Sub.nil _)))) Ent.refl ?_)
  rintro i ⟨h1, h2⟩
  refine VC.seq (VC.seq (VC.region (VO.go (VO.nil ?_))))
  refine VC.condP rfl (fun h => VC.skip ?_) (fun h => VC.exit ?_)
  · refine VC.seq (VC.block (VC.seq (VC.region (VO.go ?_))))
    refine VO.callV (fun Fr' w => gap_spec Fr' w i m) rfl (VO.go ?_)
    refine VO.callV (fun Fr' w => rgap_spec Fr' w i m (by omega)) rfl (VO.go (VO.yes 17 false rfl (by simp) (VO.go ?_)))
    refine VO.callV (fun Fr' w => sum_spec Fr' w i m (by omega)) rfl (VO.go ?_)
    refine VO.callV (fun Fr' w => rsum_spec Fr' w i m (by omega)) rfl (VO.go (VO.yes 26 false rfl (by simp) (VO.go ?_)))
    refine VO.callV (fun Fr' w => gap_spec Fr' w i t) rfl (VO.go ?_)
    refine VO.callV (fun Fr' w => rgap_spec Fr' w i t (by omega)) rfl (VO.go (VO.nil ?_))
    refine VC.condNE rfl (fun h => absurd rfl h) (fun _ => VC.skip ?_)
    refine VC.region (VO.go ?_)
    refine VO.add rfl rfl (by omega) (by omega) (VO.go (VO.nil ?_))
    exact ⟨i + 1, ⟨by omega, by omega⟩, by dsimp only; omega, Sub.cons rfl (Sub.cons rfl (Sub.cons rfl (Sub.nil _))), Ent.refl⟩
  · refine VC.seq (VC.region (VO.go ?_))
    refine VO.callV (fun Fr' w => gap_spec Fr' w t m) rfl (VO.go ?_)
    refine VO.callV (fun Fr' w => rgap_spec Fr' w t m (by omega)) rfl (VO.go (VO.yes 42 true rfl (by simp) (VO.go ?_)))
    refine VO.callV (fun Fr' w => sum_spec Fr' w t m (by omega)) rfl (VO.go ?_)
    refine VO.callV (fun Fr' w => rsum_spec Fr' w t m (by omega)) rfl (VO.go (VO.yes 51 true rfl (by simp) (VO.go ?_)))
    refine VO.callV (fun Fr' w => gaps_spec Fr' w) rfl (VO.go (VO.nil (VC.ret ?_)))
    exact Ret.bool 4 rfl rfl rfl Ent.refl ⟨rfl, rfl⟩

theorem conv_u16 {a : Int} (w : (Lit.int .u16 a).wf = true) : 0 ≤ a ∧ a ≤ 65535 := by
  simp [Lit.wf, IntKind.min, IntKind.max, IntKind.signed, IntKind.bits] at w; omega
theorem conv_u8 {a : Int} (w : (Lit.int .u8 a).wf = true) : 0 ≤ a ∧ a ≤ 255 := by
  simp [Lit.wf, IntKind.min, IntKind.max, IntKind.signed, IntKind.bits] at w; omega

def tab2 : Tab := (25, ⟨.int .u16, 1, 2, .int .u16 0⟩) :: (5, ⟨.int .u8, 1, 1, .int .u8 0⟩) :: tab
theorem tabOk2 : TabOk Try.prog tab2 := by
  intro p hp
  simp only [tab2, List.mem_cons] at hp
  rcases hp with rfl | rfl | hp
  · exact ⟨by kernel_rfl, by kernel_rfl, rfl⟩
  · exact ⟨by kernel_rfl, by kernel_rfl, rfl⟩
  · exact tabOk _ hp

theorem gap_pos (t m : Int) (h : 1 ≤ t) : gap t m = if pw t < most m then pw t else most m := by rw [gap, if_neg (by omega)]
theorem sum_pos (t m : Int) (h : 1 ≤ t) (h' : t ≤ 65537) : sum t m = if 7 < t then sm 7 m + (t - 7) * most m else sm t m := by
  have c1 : cut t = t := by unfold cut; split <;> omega
  rw [sum, c1, if_neg (by omega)]
theorem gap_le (t m : Int) (ht : 1 ≤ t) : gap t m ≤ gap (t + 1) m := by
  have := pw_mono t (t + 1) ht (by omega)
  rw [gap_pos t m (by omega), gap_pos (t + 1) m (by omega)]; repeat' split
  all_goals omega
theorem gap_twice (t m : Int) (ht : 1 ≤ t) (h : gap (t + 1) m < most m) : gap (t + 1) m = 2 * gap t m := by
  have hb := most_bd m
  have h6 : t ≤ 6 := by
    rcases Int.lt_or_le 6 t with h' | h'
    · rw [gap_big (t + 1) m (by omega)] at h; omega
    · exact h'
  have hs := pw_succ t ht h6
  have hpb := pw_bd t
  rw [gap_pos (t + 1) m (by omega)] at h ⊢
  rw [gap_pos t m (by omega)]
  repeat' split at h
  all_goals repeat' split
  all_goals omega

set_option maxRecDepth 100000 in
theorem sums_spec (Fr : Nat → Prop) (w : World) (t m : Int) (ht : 0 ≤ t ∧ t ≤ 65535) (hm : 0 ≤ m ∧ m ≤ 255) :
    Tri Try.prog 4 [.int .u16 t, .int .u8 m] Fr w [] (fun v L => v = .bool true ∧ L = []) := by
  refine Tri.of 72 Try.func4 rfl (by kernel_rfl) tabOk2 rfl rfl ?_
  refine VC.seq (VC.region (VO.go (VO.nil (VC.seq (VC.region (VO.go ?_))))))
  refine VO.conv t rfl rfl rfl rfl rfl (i64_in _ (by omega) (by omega)) (VO.go ?_)
  refine VO.add rfl rfl (by omega) (by omega) (VO.go ?_)
  refine VO.conv m rfl rfl rfl rfl rfl (i64_in _ (by omega) (by omega)) (VO.go (VO.nil ?_))
  obtain ⟨T, hT⟩ : ∃ T, T = 1 + t := ⟨_, rfl⟩
  rw [← hT]
  have hT1 : 1 ≤ T ∧ T ≤ 65536 := by omega
  clear hT ht
  refine VC.seq (VC.region (VO.go ?_))
  refine VO.callV (fun Fr' w => gap_spec Fr' w T m) rfl (VO.go ?_)
  refine VO.add rfl rfl (by omega) (by omega) (VO.go ?_)
  refine VO.callV (fun Fr' w => gap_spec Fr' w (T + 1) m) rfl (VO.go (VO.nil ?_))
  have hb := most_bd m
  have hb1 := gap_bd T m
  have hb2 := gap_bd (T + 1) m
  have hle := gap_le T m hT1.1
  have hmm : most m ≤ m := by unfold most; repeat' split
                              all_goals omega
  have hgm : gap (T + 1) m ≤ most m := by rw [gap, if_neg (by omega)]; split <;> omega
  refine VC.seq (VC.seq (VC.region (VO.go ?_)))
  refine VO.yes 24 false rfl (by simp; omega) (VO.go ?_)
  refine VO.yes 29 false rfl (by simp; omega) (VO.go ?_)
  refine VO.yes 33 false rfl (by simp; omega) (VO.go ?_)
  refine VO.add rfl rfl (by omega) (by omega) (VO.go ?_)
  refine VO.callV (fun Fr' w => sum_spec Fr' w (T + 1) m (by omega)) rfl (VO.go ?_)
  refine VO.callV (fun Fr' w => sum_spec Fr' w T m (by omega)) rfl (VO.go ?_)
  have s7 := sm_bd 7 m (by omega)
  have hs : sum (T + 1) m = sum T m + gap (T + 1) m := by
    rw [sum_pos T m (by omega) (by omega), sum_pos (T + 1) m (by omega) (by omega)]
    rcases Int.lt_or_le 7 T with h | h
    · rw [if_pos h, if_pos (by omega), gap_big _ _ (by omega), show T + 1 - 7 = (T - 7) + 1 from by omega, Int.add_mul]; omega
    · rw [if_neg (by omega : ¬ 7 < T)]
      rcases Int.lt_or_le 6 T with h6 | h6
      · have : T = 7 := by omega
        subst this
        rw [if_pos (by omega), gap_big _ _ (by omega)]; omega
      · rw [if_neg (by omega), sm_succ _ _ (by omega)]
  have hsb : 0 ≤ sum T m ∧ sum T m ≤ 64 * 7 + 65536 * 64 := by
    rw [sum_pos T m (by omega) (by omega)]
    split
    · have hp : (T - 7) * most m ≤ 65536 * 64 := Int.mul_le_mul (by omega) hb.2 hb.1 (by omega)
      have hp0 : 0 ≤ (T - 7) * most m := Int.mul_nonneg (by omega) hb.1
      omega
    · have := sm_bd T m (by omega); omega
  have hsg : gap T m ≤ sum T m := by
    rw [sum_pos T m (by omega) (by omega)]
    split
    · rw [gap_big _ _ (by omega)]
      have : 1 * most m ≤ (T - 7) * most m := Int.mul_le_mul_of_nonneg_right (by omega) hb.1
      omega
    · have := sm_succ (T - 1) m (by omega)
      rw [show T - 1 + 1 = T from by omega] at this
      have := sm_bd (T - 1) m (by omega)
      omega
  refine VO.add rfl rfl (by omega) (by omega) (VO.go ?_)
  refine VO.yes 45 false rfl (by simp [hs]) (VO.go ?_)
  refine VO.callV (fun Fr' w => sum_spec Fr' w T m (by omega)) rfl (VO.go (VO.nil ?_))
  refine VC.condP rfl (fun h => absurd h (by omega)) (fun _ => VC.skip ?_)
  have hmost : (if 64 < m then 64 else m) = most m := by unfold most; rw [if_neg (show ¬ m < 0 by omega)]
  have fin : ((m == 0) == (gap T m == 0)) = true := by
    have hp := pw_bd T
    have e1 : (m = 0) ↔ (gap T m = 0) := by
      rw [gap_pos T m (by omega), ← hmost]; repeat' split
      all_goals omega
    by_cases h0 : m = 0
    · have h1 := e1.1 h0
      rw [h1, h0]; rfl
    · have h1 : gap T m ≠ 0 := fun h => h0 (e1.2 h)
      rw [beq_eq_false_iff_ne.2 h0, beq_eq_false_iff_ne.2 h1]; rfl
  refine VC.seq (VC.region (VO.go ?_))
  refine VO.split 56 rfl rfl (fun h => VO.go ?_) (fun h => VO.go ?_)
  · refine VO.yes 62 true rfl rfl (VO.go ?_)
    refine VO.yes 69 true rfl fin (VO.go ?_)
    refine VO.callV (fun Fr' w => gaps_spec Fr' w) rfl (VO.go (VO.nil (VC.ret ?_)))
    exact Ret.bool 4 rfl rfl rfl Ent.refl ⟨rfl, rfl⟩
  · have h := of_decide_eq_false h
    rw [hmost] at h
    have h2 := gap_twice T m hT1.1 (by omega)
    refine VO.mul rfl rfl (by omega) (by omega) (VO.go ?_)
    refine VO.yes 62 true rfl (by simp; omega) (VO.go ?_)
    refine VO.yes 69 true rfl fin (VO.go ?_)
    refine VO.callV (fun Fr' w => gaps_spec Fr' w) rfl (VO.go (VO.nil (VC.ret ?_)))
    exact Ret.bool 4 rfl rfl rfl Ent.refl ⟨rfl, rfl⟩
end Go.Proofs.Ytpgcjbddjghkdaa.Bk
