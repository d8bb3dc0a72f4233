/- The reference's scheduler: what expires. No condition. -/
import Derived.Test.YtpgcjbddjghkdaaRef16
namespace Go.Proofs.Ytpgcjbddjghkdaa.Ref16
open Go Go.Proofs.Ytpgcjbddjghkdaa.Vg Go.Proofs.Ytpgcjbddjghkdaa.T Go.Proofs.Ytpgcjbddjghkdaa.Api Go.Proofs.Ytpgcjbddjghkdaa.Sched
set_option linter.unusedSimpArgs false
set_option linter.unusedVariables false
attribute [local irreducible] VO VC VA

abbrev ExpS := Nat × SchM × RfS × Option Addr × Nat × List FM
structure ExpI (S0 : SchM) (a0 : Option Addr) (now : Int) (s0 : RfS) (x : ExpS) : Prop where
  le : x.1 ≤ S0.cls.length
  ok : RfOk x.2.1 a0 x.2.2.1
  cls : ∀ k, x.2.1.cls[k]? = (S0.cls[k]?).map (if k < x.1 then ClsM.expC now else id)
  cap : x.2.1.cap = S0.cap
  turn : x.2.1.turn = S0.turn
  fresh : x.2.1.fresh = S0.fresh
  room : x.2.2.2.2.2.length ≤ x.2.2.2.2.1
  gs : x.2.2.2.2.2.map Prod.fst = (S0.cls.take x.1).flatMap fun c => c.q.filter (gone now)
/-- Of a row so much was looked at: what is gone, and what stays. -/
abbrev RowS := Nat × (Option Addr × Nat × List FM) × (Option Addr × Nat × List FM)
structure ExpJ (q : List FrameM) (now : Int) (gs0 : List FrameM) (x : RowS) : Prop where
  le : x.1 ≤ q.length
  roomG : x.2.1.2.2.length ≤ x.2.1.2.1
  gs : x.2.1.2.2.map Prod.fst = gs0 ++ (q.take x.1).filter (gone now)
  roomS : x.2.2.2.2.length ≤ x.2.2.2.1
  ss : x.2.2.2.2.map Prod.fst = (q.take x.1).filter (stay now)

set_option maxRecDepth 100000 in
theorem expire_spec (Fr : Nat → Prop) (w : World) (p : Nat) (a0 : Option Addr) (S0 : SchM) (now : Int) :
    Tri Try.prog 29 [.pointer (some ⟨p, 0, none⟩), .int .i64 now] Fr w [rfH p a0 S0] (fun v L => ∃ a c gs, gs.map Prod.fst = S0.goneM now ∧ v = .slice a gs.length c ∧ L = [rfH p a0 (S0.expM now), frH a c gs]) := by
  refine Tri.of 86 Try.func29 rfl (by kernel_rfl) tabOk rfl rfl ?_
  refine VC.opn 0 rfl (HOpn.rf p a0 S0) fun s0 h0 => ?_
  refine VC.ent (L' := rfL p S0 s0) (Imp.of_eq (List.append_nil _)).ent ?_
  have hn4 := h0.wf.n1
  (repeat (first | refine VC.seq ?_ | refine VC.region ?_ | refine VC.block ?_ | refine VC.label ?_ | refine VC.scope ?_ | refine VO.go (VO.nil ?_) | refine VO.go (VO.ld 0 rfl rfl rfl rfl ?_)))
  refine VC.loop (σ := ExpS) (fun x => [(0, .pointer (some ⟨p, 0, none⟩)), (1, .int .i64 now), (5, .slice x.2.2.2.1 x.2.2.2.2.2.length x.2.2.2.2.1), (6, .int .i64 x.1)]) (fun x => frH x.2.2.2.1 x.2.2.2.2.1 x.2.2.2.2.2 :: rfL p x.2.1 x.2.2.1) (ExpI S0 a0 now s0) (fun x => 4 - x.1) (0, S0, s0, none, 0, []) ⟨Nat.zero_le _, h0, fun k => by simp, rfl, rfl, rfl, Nat.le_refl _, rfl⟩ (Sub.cons rfl (Sub.cons rfl (Sub.cons rfl (Sub.cons rfl (Sub.nil _))))) (Imp.slNil Imp.refl).ent ?_
  rintro ⟨i, S, s, a, c, gs⟩ ⟨hi, h, hcls, hcap, hturn, hfresh, hroom, hgs⟩
  dsimp only at hi h hcls hcap hturn hfresh hroom hgs ⊢
  have hSn : S.cls.length = S0.cls.length := by
    apply Nat.le_antisymm
    · apply Nat.le_of_not_lt
      intro hlt
      have := hcls S0.cls.length
      rw [List.getElem?_eq_none (Nat.le_refl _), List.getElem?_eq_getElem hlt] at this
      cases this
    · apply Nat.le_of_not_lt
      intro hlt
      have := hcls S.cls.length
      rw [List.getElem?_eq_none (Nat.le_refl _), List.getElem?_eq_getElem hlt] at this
      cases this
  (repeat (first | refine VC.seq ?_ | refine VC.region ?_ | refine VC.block ?_ | refine VC.label ?_ | refine VC.scope ?_ | refine VO.go (VO.nil ?_) | refine VO.go (VO.ld 0 rfl rfl rfl rfl ?_) | refine VO.go (VO.ld 1 rfl rfl rfl rfl ?_)))
  refine VC.condP rfl (fun h1 => VC.skip ?_) (fun h1 => VC.exit ?_)
  · have hk : i < S.cls.length := by omega
    have hk0 : i < S0.cls.length := by omega
    obtain ⟨r, cl, hr, hc, hok, hl⟩ := h.row hk
    have hc0 : S0.cls[i]? = some cl := by
      have := hcls i
      rw [hc, if_neg (Nat.lt_irrefl i)] at this
      simpa using this.symm
    have hlen : r.xs.length = cl.q.length := by have := congrArg List.length hl; simpa using this
    have hql := h.wf.qs cl (List.mem_of_getElem? hc)
    have hcap16 := h.wf.cap1
    have hfew := h0.wf.fewG i now
    refine VC.seq (VC.block ?_)
    refine VC.seq (VC.region (VO.go (VO.nil ?_)))
    refine VC.meet (σ := RowS) (fun x => [(0, .pointer (some ⟨p, 0, none⟩)), (1, .int .i64 now), (5, .slice x.2.1.1 x.2.1.2.2.length x.2.1.2.1), (6, .int .i64 i), (7, .slice x.2.2.1 x.2.2.2.2.length x.2.2.2.1)])
      (fun x => frH x.2.1.1 x.2.1.2.1 x.2.1.2.2 :: frH x.2.2.1 x.2.2.2.1 x.2.2.2.2 :: rfL p S s) (fun x => x.1 = cl.q.length ∧ ExpJ cl.q now ((S0.cls.take i).flatMap fun c => c.q.filter (gone now)) x) ?_ ?_
    · (repeat (first | refine VC.seq ?_ | refine VC.region ?_ | refine VC.block ?_ | refine VC.label ?_ | refine VC.scope ?_ | refine VO.go (VO.nil ?_) | refine VO.go (VO.ld 0 rfl rfl rfl rfl ?_)))
      refine VC.loop (σ := RowS) (fun x => [(0, .pointer (some ⟨p, 0, none⟩)), (1, .int .i64 now), (5, .slice x.2.1.1 x.2.1.2.2.length x.2.1.2.1), (6, .int .i64 i), (7, .slice x.2.2.1 x.2.2.2.2.length x.2.2.2.1), (8, .int .i64 x.1)])
        (fun x => frH x.2.1.1 x.2.1.2.1 x.2.1.2.2 :: frH x.2.2.1 x.2.2.2.1 x.2.2.2.2 :: rfL p S s) (ExpJ cl.q now ((S0.cls.take i).flatMap fun c => c.q.filter (gone now))) (fun x => 16 - x.1) (0, (a, c, gs), (none, 0, [])) ⟨Nat.zero_le _, hroom, by simpa using hgs, Nat.le_refl _, rfl⟩ (Sub.cons rfl (Sub.cons rfl (Sub.cons rfl (Sub.cons rfl (Sub.cons rfl (Sub.cons rfl (Sub.nil _))))))) (Imp.pick 0 rfl (Imp.slNil Imp.refl)).ent ?_
      clear hroom hgs
      rintro ⟨j, ⟨a, c, gs⟩, ⟨aS, cS, ss⟩⟩ ⟨hj, hroom, hgs, hroomS, hss⟩
      dsimp only at hj hroom hgs hroomS hss ⊢
      have hgl : gs.length ≤ 80 ∧ ss.length ≤ 16 := by
        have h2 := congrArg List.length hgs
        have h3 := List.length_filter_le (gone now) (cl.q.take j)
        have h4 := List.length_take_le j cl.q
        have h5 := congrArg List.length hss
        have h6 := List.length_filter_le (stay now) (cl.q.take j)
        rw [List.length_map, List.length_append] at h2
        rw [List.length_map] at h5
        omega
      (repeat (first | refine VC.seq ?_ | refine VC.region ?_ | refine VC.block ?_ | refine VC.label ?_ | refine VC.scope ?_ | refine VO.go (VO.nil ?_) | refine VO.go (VO.ld 0 rfl rfl rfl rfl ?_) | refine VO.go (VO.ld 1 rfl rfl rfl rfl ?_) | refine VO.go (VO.ld 2 rfl rfl rfl rfl ?_)))
      refine VO.go (VO.light (light_idx i rfl rfl rfl rfl rfl rfl hk) ?_)
      refine VO.go (VO.ld 3 rfl rfl rfl (rows_v hr) (VO.go (VO.nil ?_)))
      refine VC.condP rfl (fun h2 => VC.skip ?_) (fun h2 => VC.exit ?_)
      · have h2 : (j : Int) < r.xs.length := h2
        have hj2 : j < r.xs.length := by omega
        obtain ⟨⟨f, m⟩, hx⟩ : ∃ x, r.xs[j]? = some x := ⟨_, List.getElem?_eq_getElem hj2⟩
        obtain ⟨bk, off, hbk, had, hrow⟩ := hok.nth hx
        have hv : r.v = .slice (some ⟨bk, off, none⟩) r.xs.length r.cap := by rw [RL.v, had]
        have hrv : (s.rows.map RL.v)[0 + i * 1]? = some (.slice (some ⟨bk, off, none⟩) r.xs.length r.cap) := hv ▸ rows_v hr
        have hrowk : (rfR s)[i]? = some (pt bk r.cells 44) := by rw [rf_h hr, RL.h_pt hbk]
        have hfq : cl.q[j]? = some f := by rw [← hl, List.getElem?_map, hx]; rfl
        have htake : cl.q.take (j + 1) = cl.q.take j ++ [f] := by rw [List.take_add_one, hfq]; rfl
        have hcell : r.cells[off + j * 29 + 6]? = some (.int .i64 f.deadline) := by
          have h3 : (fmc (f, m))[6]? = some (.int .i64 f.deadline) := rfl
          rw [← hrow, List.getElem?_take, if_pos (by omega), List.getElem?_drop] at h3
          exact h3
        (repeat (first | refine VC.seq ?_ | refine VC.region ?_ | refine VC.block ?_ | refine VC.label ?_ | refine VC.scope ?_ | refine VO.go (VO.nil ?_) | refine VO.go (VO.ld 0 rfl rfl rfl rfl ?_) | refine VO.go (VO.ld 1 rfl rfl rfl rfl ?_) | refine VO.go (VO.ld 2 rfl rfl rfl rfl ?_)))
        refine VO.go (VO.light (light_idx i rfl rfl rfl rfl rfl rfl hk) ?_)
        refine VO.go (VO.ld 3 rfl rfl rfl hrv ?_)
        refine VO.go (VO.light (light_idx j rfl rfl rfl rfl rfl rfl hj2) ?_)
        refine VO.go (VO.ld (i + 6) (t := 44) (cs := r.cells) rfl hrowk rfl hcell (VO.go (VO.nil ?_)))
        have step : ∀ (x : RowS), x.1 = j + 1 → ExpJ cl.q now ((S0.cls.take i).flatMap fun c => c.q.filter (gone now)) x → True := fun _ _ _ => trivial
        refine VC.condP rfl (fun h3 => ?_) (fun h3 => ?_)
        · have h3 : f.deadline < now := h3
          have hg : gone now f = true := by simp [gone, h3]
          have hs : stay now f = false := by simp [stay, hg]
          (repeat (first | refine VC.seq ?_ | refine VC.region ?_ | refine VC.block ?_ | refine VC.label ?_ | refine VC.scope ?_ | refine VO.go (VO.nil ?_) | refine VO.go (VO.ld 0 rfl rfl rfl rfl ?_) | refine VO.go (VO.ld 1 rfl rfl rfl rfl ?_) | refine VO.go (VO.ld 2 rfl rfl rfl rfl ?_)))
          refine VO.go (VO.light (light_idx i rfl rfl rfl rfl rfl rfl hk) ?_)
          refine VO.go (VO.ld 3 rfl rfl rfl hrv ?_)
          refine VO.go (VO.light (light_idx j rfl rfl rfl rfl rfl rfl hj2) ?_)
          refine VO.go (VO.load rfl rfl (v := .agg (fmc (f, m)).toArray) (RdL.many (i + 6) (t := 44) (cs := r.cells) hrowk hrow) ?_)
          refine VO.go (VO.buildSlice (n := 1) (pv := [(0, .agg (fmc (f, m)).toArray)]) (fmc (f, m)) rfl rfl rfl rfl (by decide) (fill_one rfl rfl rfl) fun nb => ?_)
          refine VO.go (VO.append (m := 1) (news := fmc (f, m)) 1 rfl rfl rfl rfl rfl rfl rfl (RdRow.pt 0 rfl rfl rfl) rfl (by show (gs.length + 1) * 288 ≤ _; omega) (by omega) fun a' c' hc' => VO.go (VO.nil ?_))
          (repeat (first | refine VC.seq ?_ | refine VC.region ?_ | refine VC.block ?_ | refine VC.label ?_ | refine VC.scope ?_ | refine VO.go (VO.nil ?_) | refine VO.go (VO.ld 0 rfl rfl rfl rfl ?_)))
          refine VO.go (VO.add rfl rfl (by omega) (by omega) ?_)
          (repeat (first | refine VC.seq ?_ | refine VC.region ?_ | refine VC.block ?_ | refine VC.label ?_ | refine VC.scope ?_ | refine VO.go (VO.nil ?_) | refine VO.go (VO.ld 0 rfl rfl rfl rfl ?_)))
          have hL : (gs ++ [(f, m)]).length = gs.length + 1 := by simp
          refine ⟨(j + 1, (a', c', gs ++ [(f, m)]), (aS, cS, ss)), ⟨by dsimp only; omega, by dsimp only; rw [hL]; exact hc', ?_, hroomS, by dsimp only; rw [hss, htake, List.filter_append]; simp [hs]⟩, by dsimp only; omega, Sub.cons rfl (Sub.cons rfl (Sub.cons (by rw [hL]; rfl) (Sub.cons rfl (Sub.cons rfl (Sub.cons rfl (Sub.nil _)))))), ?_⟩
          · dsimp only; rw [List.map_append, hgs, htake, List.filter_append, List.append_assoc]; simp [hg]
          · dsimp only
            rw [← frH_snoc]
            exact (Imp.cons Imp.tl).ent
        · have h3 : ¬ f.deadline < now := h3
          have hg : gone now f = false := by simp [gone]; omega
          have hs : stay now f = true := by simp [stay, hg]
          (repeat (first | refine VC.seq ?_ | refine VC.region ?_ | refine VC.block ?_ | refine VC.label ?_ | refine VC.scope ?_ | refine VO.go (VO.nil ?_) | refine VO.go (VO.ld 0 rfl rfl rfl rfl ?_) | refine VO.go (VO.ld 1 rfl rfl rfl rfl ?_) | refine VO.go (VO.ld 2 rfl rfl rfl rfl ?_)))
          refine VO.go (VO.light (light_idx i rfl rfl rfl rfl rfl rfl hk) ?_)
          refine VO.go (VO.ld 3 rfl rfl rfl hrv ?_)
          refine VO.go (VO.light (light_idx j rfl rfl rfl rfl rfl rfl hj2) ?_)
          refine VO.go (VO.load rfl rfl (v := .agg (fmc (f, m)).toArray) (RdL.many (i + 6) (t := 44) (cs := r.cells) hrowk hrow) ?_)
          refine VO.go (VO.buildSlice (n := 1) (pv := [(0, .agg (fmc (f, m)).toArray)]) (fmc (f, m)) rfl rfl rfl rfl (by decide) (fill_one rfl rfl rfl) fun nb => ?_)
          refine VO.go (VO.append (m := 1) (news := fmc (f, m)) 2 rfl rfl rfl rfl rfl rfl rfl (RdRow.pt 0 rfl rfl rfl) rfl (by show (ss.length + 1) * 288 ≤ _; omega) (by omega) fun a' c' hc' => VO.go (VO.nil ?_))
          (repeat (first | refine VC.seq ?_ | refine VC.region ?_ | refine VC.block ?_ | refine VC.label ?_ | refine VC.scope ?_ | refine VO.go (VO.nil ?_) | refine VO.go (VO.ld 0 rfl rfl rfl rfl ?_)))
          refine VO.go (VO.add rfl rfl (by omega) (by omega) ?_)
          (repeat (first | refine VC.seq ?_ | refine VC.region ?_ | refine VC.block ?_ | refine VC.label ?_ | refine VC.scope ?_ | refine VO.go (VO.nil ?_) | refine VO.go (VO.ld 0 rfl rfl rfl rfl ?_)))
          have hL : (ss ++ [(f, m)]).length = ss.length + 1 := by simp
          refine ⟨(j + 1, (a, c, gs), (a', c', ss ++ [(f, m)])), ⟨by dsimp only; omega, hroom, by dsimp only; rw [hgs, htake, List.filter_append]; simp [hg], by dsimp only; rw [hL]; exact hc', ?_⟩, by dsimp only; omega, Sub.cons rfl (Sub.cons rfl (Sub.cons rfl (Sub.cons rfl (Sub.cons (by rw [hL]; rfl) (Sub.cons rfl (Sub.nil _)))))), ?_⟩
          · dsimp only; rw [List.map_append, hss, htake, List.filter_append]; simp [hs]
          · dsimp only
            rw [← frH_snoc]
            refine (Imp.pick 2 rfl ?_).ent
            refine Imp.pick 0 rfl ?_
            exact Imp.tl
      · have h2 : ¬ (j : Int) < r.xs.length := h2
        exact ⟨(j, (a, c, gs), (aS, cS, ss)), ⟨by dsimp only; omega, ⟨hj, hroom, hgs, hroomS, hss⟩⟩, Sub.cons rfl (Sub.cons rfl (Sub.cons rfl (Sub.cons rfl (Sub.cons rfl (Sub.nil _))))), Ent.refl⟩
    clear hroom hgs
    rintro ⟨j, ⟨a, c, gs⟩, ⟨aS, cS, ss⟩⟩ ⟨hj0, ⟨hj, hroom, hgs, hroomS, hss⟩⟩
    dsimp only at hj0 hj hroom hgs hroomS hss ⊢
    subst hj0
    rw [List.take_length] at hgs hss
    refine VC.opn 1 rfl (HOpn.rl _ aS cS ss fmc_len) fun r' ⟨hok', hv', hx'⟩ => ?_
    have hle2 := List.length_filter_le (stay now) cl.q
    have hki : i < s.rows.length := by rw [h.len]; exact hk
    have hwf' : SchM.Wf ⟨S.cls.set i (cl.expC now), S.cap, S.turn, S.fresh⟩ := h.wf.set hc ((h.wf.cls cl (List.mem_of_getElem? hc)).exp now) (by show (cl.q.filter (stay now)).length ≤ S.cap; omega) (fun hl => by
      have := h.wf.low i cl hc hl
      show (if cl.q.filter (stay now) = [] then 0 else cl.credit) ≤ 95
      split <;> omega)
    have hnext : ExpI S0 a0 now s0 (i + 1, ⟨S.cls.set i (cl.expC now), S.cap, S.turn, S.fresh⟩, { s with rows := s.rows.set i r' }, a, c, gs) := by
      refine ⟨hk0, h.set hok' (by rw [hx', hss]; rfl) hwf', fun k => ?_, hcap, hturn, hfresh, hroom, ?_⟩
      · dsimp only
        by_cases hik : i = k
        · subst hik
          rw [List.getElem?_set_self hk, hc0, if_pos (Nat.lt_succ_self i)]; rfl
        · rw [List.getElem?_set_ne hik, hcls k]
          congr 1
          by_cases h9 : k < i
          · rw [if_pos h9, if_pos (by omega)]
          · rw [if_neg h9, if_neg (by omega)]
      · dsimp only; rw [hgs, List.take_add_one, hc0, List.flatMap_append]; simp
    refine VC.ent (L' := r'.h 44 :: frH a c gs :: rfL p S s) Ent.refl ?_
    (repeat (first | refine VC.seq ?_ | refine VC.region ?_ | refine VC.block ?_ | refine VC.label ?_ | refine VC.scope ?_ | refine VO.go (VO.nil ?_) | refine VO.go (VO.ld 0 rfl rfl rfl rfl ?_) | refine VO.go (VO.ld 1 rfl rfl rfl rfl ?_) | refine VO.go (VO.ld 2 rfl rfl rfl rfl ?_)))
    refine VO.go (VO.light (light_idx i rfl rfl rfl rfl rfl rfl hk) ?_)
    refine VO.go (VO.st 3 rfl rfl rfl rfl (by show 0 + i * 1 < _; simp; omega) (cs' := (s.rows.map RL.v).set i r'.v) (by show (s.rows.map RL.v).set (0 + i * 1) _ = _; rw [Nat.zero_add, Nat.mul_one, hv']) rfl (VO.go (VO.nil ?_)))
    (repeat (first | refine VC.seq ?_ | refine VC.region ?_ | refine VC.block ?_ | refine VC.label ?_ | refine VC.scope ?_ | refine VO.go (VO.nil ?_) | refine VO.go (VO.ld 0 rfl rfl rfl rfl ?_)))
    refine VC.condE rfl (fun hz => ?_) (fun hz => VC.skip ?_)
    · have hz : cl.q.filter (stay now) = [] := by rw [← hss, List.eq_nil_of_length_eq_zero (l := ss) (by omega)]; rfl
      have hcr : (cl.expC now).credit = 0 := by show (if cl.q.filter (stay now) = [] then 0 else cl.credit) = 0; rw [if_pos hz]
      (repeat (first | refine VC.seq ?_ | refine VC.region ?_ | refine VC.block ?_ | refine VC.label ?_ | refine VC.scope ?_ | refine VO.go (VO.nil ?_) | refine VO.go (VO.ld 0 rfl rfl rfl rfl ?_) | refine VO.go (VO.ld 1 rfl rfl rfl rfl ?_) | refine VO.go (VO.ld 2 rfl rfl rfl rfl ?_)))
      refine VO.go (VO.light (light_idx i rfl rfl rfl rfl rfl rfl hk) ?_)
      refine VO.go (VO.st 4 rfl rfl rfl rfl (by show 0 + i * 1 < _; rw [crs_len]; omega) (crs_set (c := cl.expC now) hcr.symm) rfl (VO.go (VO.nil ?_)))
      (repeat (first | refine VC.seq ?_ | refine VC.region ?_ | refine VC.block ?_ | refine VC.label ?_ | refine VC.scope ?_ | refine VO.go (VO.nil ?_) | refine VO.go (VO.ld 0 rfl rfl rfl rfl ?_)))
      refine VO.go (VO.add rfl rfl (by omega) (by omega) ?_)
      (repeat (first | refine VC.seq ?_ | refine VC.region ?_ | refine VC.block ?_ | refine VC.label ?_ | refine VC.scope ?_ | refine VO.go (VO.nil ?_) | refine VO.go (VO.ld 0 rfl rfl rfl rfl ?_)))
      refine ⟨_, hnext, by dsimp only; omega, Sub.cons rfl (Sub.cons rfl (Sub.cons rfl (Sub.cons rfl (Sub.nil _)))), ?_⟩
      refine (Imp.pick 1 rfl ?_).ent
      refine Imp.trans (Imp.pick 1 rfl (Imp.pick 1 rfl (Imp.pick 1 rfl (Imp.pick 1 rfl (rfR_put (r' := r') hki))))) (Imp.of_eq ?_)
      simp only [rfL, List.length_set, List.map_set, svs_same hc (show (cl.expC now).served = cl.served from rfl)]; rfl
    · have hz : cl.q.filter (stay now) ≠ [] := fun e => hz (by have := congrArg List.length hss; rw [e] at this; simp at this; simp [this])
      have hcr : (cl.expC now).credit = cl.credit := by show (if cl.q.filter (stay now) = [] then 0 else cl.credit) = _; rw [if_neg hz]
      (repeat (first | refine VC.seq ?_ | refine VC.region ?_ | refine VC.block ?_ | refine VC.label ?_ | refine VC.scope ?_ | refine VO.go (VO.nil ?_) | refine VO.go (VO.ld 0 rfl rfl rfl rfl ?_)))
      refine VO.go (VO.add rfl rfl (by omega) (by omega) ?_)
      (repeat (first | refine VC.seq ?_ | refine VC.region ?_ | refine VC.block ?_ | refine VC.label ?_ | refine VC.scope ?_ | refine VO.go (VO.nil ?_) | refine VO.go (VO.ld 0 rfl rfl rfl rfl ?_)))
      refine ⟨_, hnext, by dsimp only; omega, Sub.cons rfl (Sub.cons rfl (Sub.cons rfl (Sub.cons rfl (Sub.nil _)))), ?_⟩
      refine (Imp.pick 1 rfl ?_).ent
      refine Imp.trans (Imp.pick 1 rfl (Imp.pick 1 rfl (Imp.pick 1 rfl (Imp.pick 1 rfl (rfR_put (r' := r') hki))))) (Imp.of_eq ?_)
      simp only [rfL, List.length_set, List.map_set, svs_same hc (show (cl.expC now).served = cl.served from rfl), crs_same hc hcr]; rfl
  · have hk : i = S0.cls.length := by omega
    subst hk
    rw [List.take_length] at hgs
    (repeat (first | refine VC.seq ?_ | refine VC.region ?_ | refine VC.block ?_ | refine VC.label ?_ | refine VC.scope ?_ | refine VO.go (VO.nil ?_) | refine VO.go (VO.ld 0 rfl rfl rfl rfl ?_)))
    have e : S = S0.expM now := by
      obtain ⟨cls, cap, turn, fresh⟩ := S
      dsimp only at hcls hcap hturn hfresh
      subst hcap; subst hturn; subst hfresh
      show SchM.mk _ _ _ _ = SchM.mk _ _ _ _
      congr 1
      apply List.ext_getElem?
      intro k
      rw [hcls k, List.getElem?_map]
      by_cases h9 : k < S0.cls.length
      · rw [if_pos h9]
      · rw [List.getElem?_eq_none (by omega)]; rfl
    subst e
    refine VC.ret (Ret.tmp 4 rfl rfl (Imp.trans (Imp.perm (List.perm_append_comm (l₁ := [_]))) (Imp.app (L := rfL p _ s) (rf_shut s h Imp.refl) Imp.refl)).ent ⟨a, c, gs, hgs, rfl, rfl⟩)
end Go.Proofs.Ytpgcjbddjghkdaa.Ref16
