/- BruteTell: the search and the reference say the same. No condition but the table of powers of ten. -/
import Derived.Test.YthabecjplpomhaaDoorRf5
namespace Go.Proofs.YthabecjplpomhaaDoor.Br
open Go Go.Proofs.YthabecjplpomhaaDoor.Vg Go.Proofs.YthabecjplpomhaaDoor.T Go.Proofs.YthabecjplpomhaaDoor.Api Go.Proofs.YthabecjplpomhaaDoor.Kv Go.Proofs.YthabecjplpomhaaDoor.LibC
set_option linter.unusedSimpArgs false
set_option linter.unusedVariables false
attribute [local irreducible] VO VC VA

theorem ordC_st (o : List Nat) : ordC o = flat iC (stR o) := ordC_flat o

set_option maxRecDepth 100000 in
set_option maxHeartbeats 2000000 in
theorem btell_spec (Fr : Nat → Prop) (w : World) {a : Option Addr} {cap : Nat} {l : List RecM} (h : RecsIn Fr w a l) (hl : l.length ≤ 9223372036854775807) (hT : TabF Fr w) :
    Tri Tryd.prog 3 [.slice a l.length cap] Fr w [] (fun v L => v = .bool true ∧ L = []) := by
  refine Tri.of 110 Tryd.func3 rfl (by kernel_rfl) tabOk rfl rfl ?_
  (repeat (first | refine VC.seq ?_ | refine VC.region ?_ | refine VC.block ?_ | refine VC.label ?_ | refine VC.scope ?_ | refine VO.go (VO.nil ?_) | refine VO.go (VO.ld 0 rfl rfl rfl rfl ?_)))
  refine VO.go (VO.callV' (fun Fr w hF hs _ => great_spec Fr w (h.of hF hs) hl 9 (by decide)) rfl ?_)
  (repeat (first | refine VC.seq ?_ | refine VC.region ?_ | refine VC.block ?_ | refine VC.label ?_ | refine VC.scope ?_ | refine VO.go (VO.nil ?_) | refine VO.go (VO.ld 0 rfl rfl rfl rfl ?_)))
  refine VC.cond rfl (fun _ => ?_) (fun hg => VC.skip ?_)
  · (repeat (first | refine VC.seq ?_ | refine VC.region ?_ | refine VC.block ?_ | refine VC.label ?_ | refine VC.scope ?_ | refine VO.go (VO.nil ?_) | refine VO.go (VO.ld 0 rfl rfl rfl rfl ?_)))
    refine VO.go (VO.callV' (fun Fr w hF hs _ => found_spec Fr w (TabF.st rfl hT hF hs)) rfl ?_)
    (repeat (first | refine VC.seq ?_ | refine VC.region ?_ | refine VC.block ?_ | refine VC.label ?_ | refine VC.scope ?_ | refine VO.go (VO.nil ?_) | refine VO.go (VO.ld 0 rfl rfl rfl rfl ?_)))
    exact VC.ret (Ret.tmp 2 rfl rfl Imp.nil.ent ⟨rfl, rfl⟩)
  have hl9 := great_no hg
  (repeat (first | refine VC.seq ?_ | refine VC.region ?_ | refine VC.block ?_ | refine VC.label ?_ | refine VC.scope ?_ | refine VO.go (VO.nil ?_) | refine VO.go (VO.ld 0 rfl rfl rfl rfl ?_)))
  refine VC.loop (σ := Nat × Option Addr × Nat) (fun x => [(0, .slice a l.length cap), (3, .slice x.2.1 x.1 x.2.2), (4, .int .i64 x.1)]) (fun x => [slH 33 14 x.2.1 x.1 x.2.2 (flat recC (l.take x.1))]) (fun x => x.1 ≤ l.length) (fun x => l.length - x.1) (0, none, 0)
    (Nat.zero_le _) (Sub.cons rfl (Sub.cons rfl (Sub.cons rfl (Sub.nil _)))) (Imp.slNil Imp.nil).ent ?_
  rintro ⟨j, a1, c1⟩ hj
  dsimp only at hj ⊢
  (repeat (first | refine VC.seq ?_ | refine VC.region ?_ | refine VC.block ?_ | refine VC.label ?_ | refine VC.scope ?_ | refine VO.go (VO.nil ?_) | refine VO.go (VO.ld 0 rfl rfl rfl rfl ?_)))
  refine VC.condP rfl (fun h2 => VC.skip ?_) (fun h2 => VC.exit ?_)
  · have hj2 : j < l.length := by omega
    have hF : flat recC (l.take (j + 1)) = flat recC (l.take j) ++ recC (at_ l j) := by rw [List.take_add_one, at_get hj2]; simp [flat_append, flat_cons, flat_nil]
    obtain ⟨fb, fo, rfl, ra, rc, rs⟩ := RwIn.rd3 (X := ⟨Tryd.prog, tab, tabOk, 110, Fr, w⟩) h (at_get hj2)
    (repeat (first | refine VC.seq ?_ | refine VC.region ?_ | refine VC.block ?_ | refine VC.label ?_ | refine VC.scope ?_ | refine VO.go (VO.nil ?_) | refine VO.go (VO.ld 0 rfl rfl rfl rfl ?_)))
    refine VO.go (VO.light (light_idx j rfl rfl rfl rfl rfl rfl hj2) ?_)
    refine VO.go (VO.load rfl rfl (ra _ _ rfl rfl) ?_)
    refine VO.go (VO.buildSlice (n := 1) (pv := [(0, .agg (recC (at_ l j)).toArray)]) (recC (at_ l j)) rfl rfl rfl rfl (by decide) (fill_one rfl rfl rfl) fun nb => ?_)
    refine VO.go (VO.append (m := 1) (news := recC (at_ l j)) 1 rfl rfl rfl rfl rfl rfl rfl (RdRow.pt 0 rfl rfl rfl) rfl (by show (j + 1) * 136 ≤ _; omega) (by omega) fun a2 c2 hc2 => ?_)
    (repeat (first | refine VC.seq ?_ | refine VC.region ?_ | refine VC.block ?_ | refine VC.label ?_ | refine VC.scope ?_ | refine VO.go (VO.nil ?_) | refine VO.go (VO.ld 0 rfl rfl rfl rfl ?_)))
    refine VO.go (VO.add rfl rfl (by omega) (by omega) ?_)
    (repeat (first | refine VC.seq ?_ | refine VC.region ?_ | refine VC.block ?_ | refine VC.label ?_ | refine VC.scope ?_ | refine VO.go (VO.nil ?_) | refine VO.go (VO.ld 0 rfl rfl rfl rfl ?_)))
    refine ⟨(j + 1, a2, c2), hj2, by dsimp only; omega, Sub.cons rfl (Sub.cons rfl (Sub.cons rfl (Sub.nil _))), ?_⟩
    dsimp only
    rw [hF]
    exact (Imp.pick 0 rfl Imp.nil).ent
  obtain rfl : j = l.length := by omega
  rw [List.take_length]
  (repeat (first | refine VC.seq ?_ | refine VC.region ?_ | refine VC.block ?_ | refine VC.label ?_ | refine VC.scope ?_ | refine VO.go (VO.nil ?_) | refine VO.go (VO.ld 0 rfl rfl rfl rfl ?_)))
  refine VO.go (VO.callV' (fun Fr w hF hs hS => rfcheck_spec Fr w (RwIn.sl (cap := c1) recC_len (hS.at_ 0 rfl)) hl) rfl ?_)
  (repeat (first | refine VC.seq ?_ | refine VC.region ?_ | refine VC.block ?_ | refine VC.label ?_ | refine VC.scope ?_ | refine VO.go (VO.nil ?_) | refine VO.go (VO.ld 0 rfl rfl rfl rfl ?_)))
  refine VO.go (VO.split 33 rfl rfl (fun hc => ?_) (fun hc => ?_))
  · have hc : checkM l = 0 := eq_of_beq hc
    have hlin : linOk l = (orderM l).isSome := by rw [linOk, hc]; rfl
    have hord : ordOut l = orderM l := by rw [ordOut, if_pos hc]
    have hops : ∀ r ∈ l, opCheck r.op = 0 := by
      have h2 := hc
      unfold checkM at h2
      split at h2
      · omega
      split at h2
      · exact opsOk_all (by assumption)
      · omega
    rw [hc]
    (repeat (first | refine VC.seq ?_ | refine VC.region ?_ | refine VC.block ?_ | refine VC.label ?_ | refine VC.scope ?_ | refine VO.go (VO.nil ?_) | refine VO.go (VO.ld 0 rfl rfl rfl rfl ?_) | refine VO.go (VO.offU rfl rfl rfl ?_)))
    refine VC.condP rfl (fun _ => ?_) (fun h6 => VC.skip ?_)
    · (repeat (first | refine VC.seq ?_ | refine VC.region ?_ | refine VC.block ?_ | refine VC.label ?_ | refine VC.scope ?_ | refine VO.go (VO.nil ?_) | refine VO.go (VO.ld 0 rfl rfl rfl rfl ?_)))
      refine VO.go (VO.callV' (fun Fr w hF hs _ => found_spec Fr w (TabF.st rfl hT hF hs)) rfl ?_)
      (repeat (first | refine VC.seq ?_ | refine VC.region ?_ | refine VC.block ?_ | refine VC.label ?_ | refine VC.scope ?_ | refine VO.go (VO.nil ?_) | refine VO.go (VO.ld 0 rfl rfl rfl rfl ?_)))
      exact VC.ret (Ret.tmp 2 rfl rfl Imp.nil.ent ⟨rfl, rfl⟩)
    have hl6 : l.length ≤ 6 := by omega
    (repeat (first | refine VC.seq ?_ | refine VC.region ?_ | refine VC.block ?_ | refine VC.label ?_ | refine VC.scope ?_ | refine VO.go (VO.nil ?_) | refine VO.go (VO.ld 0 rfl rfl rfl rfl ?_)))
    refine VO.go (VO.callV' (fun Fr w hF hs _ => lin_at (l := l) (c := 0) Fr w (h.of hF hs) rfl hl (TabF.st rfl hT hF hs) hlin hc) rfl ?_)
    (repeat (first | refine VC.seq ?_ | refine VC.region ?_ | refine VC.block ?_ | refine VC.label ?_ | refine VC.scope ?_ | refine VO.go (VO.nil ?_) | refine VO.go (VO.ld 0 rfl rfl rfl rfl ?_)))
    refine VO.go (VO.call (Lc := []) (fun Fr w hF hs hS => order_spec Fr w (h.of hF hs) hl (TabF.st rfl hT hF hs)) rfl rfl ?_)
    rw [hord]
    rintro _ _ (⟨ho, rfl, rfl⟩ | ⟨o, a', c', ho, rfl, hc', rfl⟩)
    · rw [ho]
      (repeat (first | refine VC.seq ?_ | refine VC.region ?_ | refine VC.block ?_ | refine VC.label ?_ | refine VC.scope ?_ | refine VO.go (VO.nil ?_) | refine VO.go (VO.ld 0 rfl rfl rfl rfl ?_)))
      refine VC.condF rfl (VC.skip ?_)
      (repeat (first | refine VC.seq ?_ | refine VC.region ?_ | refine VC.block ?_ | refine VC.label ?_ | refine VC.scope ?_ | refine VO.go (VO.nil ?_) | refine VO.go (VO.ld 0 rfl rfl rfl rfl ?_)))
      refine VO.ent (L' := stH none 0 [] :: slH 33 14 a1 l.length c1 (flat recC l) :: []) (Imp.slNil (Imp.pick 0 rfl Imp.nil)).ent ?_
      refine VO.go (VO.call (Lc := [stH none 0 []]) (Lr := [slH 33 14 a1 l.length c1 (flat recC l)]) (fun Fr w hF hs hS => rorder_spec hl6 hops l.length Fr w (sa := none) (sc := 0) (ca := none) (cc := 0) (st := []) (C := []) (n := 0) (RwIn.sl (cap := c1) recC_len (hS.at_ 0 rfl)) RwIn.nil (Nat.le_refl _) (Nat.le_refl _) .nil (fun i hi => by cases hi) (by simp)) rfl rfl ?_)
      rintro v L1 (⟨ho2, rfl, rfl⟩ | ⟨o2, a3, c3, ho2, rfl, rfl⟩)
      case inr => have ho2 : orderM l = some o2 := ho2; rw [ho] at ho2; cases ho2
      (repeat (first | refine VC.seq ?_ | refine VC.region ?_ | refine VC.block ?_ | refine VC.label ?_ | refine VC.scope ?_ | refine VO.go (VO.nil ?_) | refine VO.go (VO.ld 0 rfl rfl rfl rfl ?_)))
      refine VO.go (VO.yes 77 false rfl rfl ?_)
      (repeat (first | refine VC.seq ?_ | refine VC.region ?_ | refine VC.block ?_ | refine VC.label ?_ | refine VC.scope ?_ | refine VO.go (VO.nil ?_) | refine VO.go (VO.ld 0 rfl rfl rfl rfl ?_) | refine VO.go (VO.offU rfl rfl rfl ?_)))
      refine VO.go (VO.yes 82 false rfl rfl ?_)
      (repeat (first | refine VC.seq ?_ | refine VC.region ?_ | refine VC.block ?_ | refine VC.label ?_ | refine VC.scope ?_ | refine VO.go (VO.nil ?_) | refine VO.go (VO.ld 0 rfl rfl rfl rfl ?_) | refine VO.go (VO.offU rfl rfl rfl ?_)))
      refine VO.go (VO.yes 87 false rfl rfl ?_)
      (repeat (first | refine VC.seq ?_ | refine VC.region ?_ | refine VC.block ?_ | refine VC.label ?_ | refine VC.scope ?_ | refine VO.go (VO.nil ?_) | refine VO.go (VO.ld 0 rfl rfl rfl rfl ?_) | refine VO.go (VO.offU rfl rfl rfl ?_)))
      refine VC.condF rfl (VC.skip ?_)
      (repeat (first | refine VC.seq ?_ | refine VC.region ?_ | refine VC.block ?_ | refine VC.label ?_ | refine VC.scope ?_ | refine VO.go (VO.nil ?_) | refine VO.go (VO.ld 0 rfl rfl rfl rfl ?_)))
      refine VC.loop (σ := Unit) (fun _ => [(8, .slice none 0 0), (10, .slice none 0 0), (12, .int .i64 0)]) (fun _ => []) (fun _ => True) (fun _ => 0) () trivial (Sub.cons rfl (Sub.cons rfl (Sub.cons rfl (Sub.nil _)))) Imp.nil.ent ?_
      rintro _ _
      (repeat (first | refine VC.seq ?_ | refine VC.region ?_ | refine VC.block ?_ | refine VC.label ?_ | refine VC.scope ?_ | refine VO.go (VO.nil ?_) | refine VO.go (VO.ld 0 rfl rfl rfl rfl ?_)))
      refine VC.condF rfl (VC.exit ?_)
      (repeat (first | refine VC.seq ?_ | refine VC.region ?_ | refine VC.block ?_ | refine VC.label ?_ | refine VC.scope ?_ | refine VO.go (VO.nil ?_) | refine VO.go (VO.ld 0 rfl rfl rfl rfl ?_)))
      refine VO.go (VO.callV' (fun Fr w hF hs _ => found_spec Fr w (TabF.st rfl hT hF hs)) rfl ?_)
      (repeat (first | refine VC.seq ?_ | refine VC.region ?_ | refine VC.block ?_ | refine VC.label ?_ | refine VC.scope ?_ | refine VO.go (VO.nil ?_) | refine VO.go (VO.ld 0 rfl rfl rfl rfl ?_)))
      exact VC.ret (Ret.tmp 2 rfl rfl Imp.nil.ent ⟨rfl, rfl⟩)
    · rw [ho]
      have hol := solve_len (m := l.length) (f := fun _ => none) (n := 0) (st := []) .nil (fun i hi => by cases hi) ho
      rw [ordC_st]
      (repeat (first | refine VC.seq ?_ | refine VC.region ?_ | refine VC.block ?_ | refine VC.label ?_ | refine VC.scope ?_ | refine VO.go (VO.nil ?_) | refine VO.go (VO.ld 0 rfl rfl rfl rfl ?_)))
      refine VC.condF rfl (VC.skip ?_)
      (repeat (first | refine VC.seq ?_ | refine VC.region ?_ | refine VC.block ?_ | refine VC.label ?_ | refine VC.scope ?_ | refine VO.go (VO.nil ?_) | refine VO.go (VO.ld 0 rfl rfl rfl rfl ?_)))
      refine VO.ent (L' := stH none 0 [] :: slH 33 14 a1 l.length c1 (flat recC l) :: stH a' c' o :: []) (Imp.slNil (Imp.pick 1 rfl (Imp.pick 0 rfl Imp.nil))).ent ?_
      refine VO.go (VO.call (Lc := [stH none 0 []]) (Lr := [slH 33 14 a1 l.length c1 (flat recC l), stH a' c' o]) (fun Fr w hF hs hS => rorder_spec hl6 hops l.length Fr w (sa := none) (sc := 0) (ca := none) (cc := 0) (st := []) (C := []) (n := 0) (RwIn.sl (cap := c1) recC_len (hS.at_ 0 rfl)) RwIn.nil (Nat.le_refl _) (Nat.le_refl _) .nil (fun i hi => by cases hi) (by simp)) rfl rfl ?_)
      rintro v L1 (⟨ho2, rfl, rfl⟩ | ⟨o2, a3, c3, ho2, rfl, rfl⟩)
      case inl => have ho2 : orderM l = none := ho2; rw [ho] at ho2; cases ho2
      have ho2 : orderM l = some o2 := ho2
      rw [ho] at ho2
      cases ho2
      refine VO.opn 0 rfl (HOpn.stO a3 c3 o) ?_
      rintro r2 ⟨hok2, rfl, rfl, hx2⟩
      refine VO.opn 2 rfl (HOpn.stO a' c' o) ?_
      rintro r1 ⟨hok1, rfl, rfl, hx1⟩
      (repeat (first | refine VC.seq ?_ | refine VC.region ?_ | refine VC.block ?_ | refine VC.label ?_ | refine VC.scope ?_ | refine VO.go (VO.nil ?_) | refine VO.go (VO.ld 0 rfl rfl rfl rfl ?_)))
      refine VO.go (VO.yes 77 false rfl rfl ?_)
      (repeat (first | refine VC.seq ?_ | refine VC.region ?_ | refine VC.block ?_ | refine VC.label ?_ | refine VC.scope ?_ | refine VO.go (VO.nil ?_) | refine VO.go (VO.ld 0 rfl rfl rfl rfl ?_) | refine VO.go (VO.offU rfl rfl rfl ?_)))
      refine VO.go (VO.yes 82 false rfl rfl ?_)
      (repeat (first | refine VC.seq ?_ | refine VC.region ?_ | refine VC.block ?_ | refine VC.label ?_ | refine VC.scope ?_ | refine VO.go (VO.nil ?_) | refine VO.go (VO.ld 0 rfl rfl rfl rfl ?_) | refine VO.go (VO.offU rfl rfl rfl ?_)))
      refine VO.go (VO.yes 87 false rfl rfl ?_)
      (repeat (first | refine VC.seq ?_ | refine VC.region ?_ | refine VC.block ?_ | refine VC.label ?_ | refine VC.scope ?_ | refine VO.go (VO.nil ?_) | refine VO.go (VO.ld 0 rfl rfl rfl rfl ?_) | refine VO.go (VO.offU rfl rfl rfl ?_)))
      refine VC.cond (t := false) (by simp [Vg.ev, Vg.look]) (fun hh => by cases hh) (fun _ => VC.skip ?_)
      (repeat (first | refine VC.seq ?_ | refine VC.region ?_ | refine VC.block ?_ | refine VC.label ?_ | refine VC.scope ?_ | refine VO.go (VO.nil ?_) | refine VO.go (VO.ld 0 rfl rfl rfl rfl ?_)))
      refine VC.loop (σ := Nat) (fun i => [(8, .slice r1.addr o.length r1.cap), (10, .slice r2.addr o.length r2.cap), (12, .int .i64 i)]) (fun _ => [r1.h 3, r2.h 3]) (fun i => i ≤ o.length) (fun i => o.length - i) 0
        (Nat.zero_le _) (Sub.cons rfl (Sub.cons rfl (Sub.cons rfl (Sub.nil _)))) (Imp.pick 0 rfl (Imp.pick 0 rfl Imp.nil)).ent ?_
      intro i hi
      (repeat (first | refine VC.seq ?_ | refine VC.region ?_ | refine VC.block ?_ | refine VC.label ?_ | refine VC.scope ?_ | refine VO.go (VO.nil ?_) | refine VO.go (VO.ld 0 rfl rfl rfl rfl ?_)))
      refine VC.condP rfl (fun h3 => VC.skip ?_) (fun h3 => VC.exit ?_)
      · have hi2 : i < o.length := by omega
        obtain ⟨k, hk⟩ : ∃ k, o[i]? = some k := ⟨_, List.getElem?_eq_getElem hi2⟩
        obtain ⟨kb1, ko1, e1, e2, hrd1⟩ := hok1.ld (k := i) (x := (k : Int)) (by rw [hx1]; exact stR_at hk) rfl
        obtain ⟨kb2, ko2, e3, e4, hrd2⟩ := hok2.ld (k := i) (x := (k : Int)) (by rw [hx2]; exact stR_at hk) rfl
        rw [e2, e4]
        refine VC.seq (VC.block (VC.seq (VC.draw (ts 0 9 .nil) (by kernel_rfl) (by decide +kernel) ?_)))
        (repeat (first | refine VA.go (VA.nil ?_) | refine VA.go (VA.ld 0 rfl rfl rfl rfl rfl ?_)))
        refine VA.go (VA.light rfl (light_idx i rfl rfl rfl rfl rfl rfl hi2) ?_)
        (repeat (first | refine VA.go (VA.nil ?_) | refine VA.go (VA.ld 0 rfl rfl rfl rfl rfl ?_)))
        refine VA.go (VA.load rfl rfl rfl ((hrd1 0 rfl).2 _ 0 _ rfl rfl) ?_)
        (repeat (first | refine VA.go (VA.nil ?_) | refine VA.go (VA.ld 0 rfl rfl rfl rfl rfl ?_)))
        refine VA.go (VA.light rfl (light_idx i rfl rfl rfl rfl rfl rfl hi2) ?_)
        (repeat (first | refine VA.go (VA.nil ?_) | refine VA.go (VA.ld 0 rfl rfl rfl rfl rfl ?_)))
        refine VA.go (VA.load rfl rfl rfl ((hrd2 1 rfl).2 _ 0 _ rfl rfl) ?_)
        (repeat (first | refine VA.go (VA.nil ?_) | refine VA.go (VA.ld 0 rfl rfl rfl rfl rfl ?_)))
        refine VC.cond (t := false) (by simp [Vg.ev, Vg.look]) (fun hh => by cases hh) (fun _ => VC.skip ?_)
        (repeat (first | refine VC.seq ?_ | refine VC.region ?_ | refine VC.block ?_ | refine VC.label ?_ | refine VC.scope ?_ | refine VO.go (VO.nil ?_) | refine VO.go (VO.ld 0 rfl rfl rfl rfl ?_)))
        refine VO.go (VO.add rfl rfl (by omega) (by omega) ?_)
        (repeat (first | refine VC.seq ?_ | refine VC.region ?_ | refine VC.block ?_ | refine VC.label ?_ | refine VC.scope ?_ | refine VO.go (VO.nil ?_) | refine VO.go (VO.ld 0 rfl rfl rfl rfl ?_)))
        rw [← e2, ← e4]
        exact ⟨i + 1, hi2, by dsimp only; omega, Sub.cons rfl (Sub.cons rfl (Sub.cons rfl (Sub.nil _))), Ent.refl⟩
      · (repeat (first | refine VC.seq ?_ | refine VC.region ?_ | refine VC.block ?_ | refine VC.label ?_ | refine VC.scope ?_ | refine VO.go (VO.nil ?_) | refine VO.go (VO.ld 0 rfl rfl rfl rfl ?_)))
        refine VO.go (VO.callV' (fun Fr w hF hs _ => found_spec Fr w (TabF.st rfl hT hF hs)) rfl ?_)
        (repeat (first | refine VC.seq ?_ | refine VC.region ?_ | refine VC.block ?_ | refine VC.label ?_ | refine VC.scope ?_ | refine VO.go (VO.nil ?_) | refine VO.go (VO.ld 0 rfl rfl rfl rfl ?_)))
        exact VC.ret (Ret.tmp 2 rfl rfl Imp.nil.ent ⟨rfl, rfl⟩)
  · have hc : checkM l ≠ 0 := ne_of_beq_false hc
    have hlin : linOk l = false := by rw [linOk, decide_eq_false hc]; rfl
    have hord : ordOut l = none := by rw [ordOut, if_neg hc]
    (repeat (first | refine VC.seq ?_ | refine VC.region ?_ | refine VC.block ?_ | refine VC.label ?_ | refine VC.scope ?_ | refine VO.go (VO.nil ?_) | refine VO.go (VO.ld 0 rfl rfl rfl rfl ?_) | refine VO.go (VO.offU rfl rfl rfl ?_)))
    refine VC.condF rfl (VC.skip ?_)
    (repeat (first | refine VC.seq ?_ | refine VC.region ?_ | refine VC.block ?_ | refine VC.label ?_ | refine VC.scope ?_ | refine VO.go (VO.nil ?_) | refine VO.go (VO.ld 0 rfl rfl rfl rfl ?_)))
    refine VO.go (VO.callV' (fun Fr w hF hs _ => lin_at (l := l) (b := false) (c := checkM l) Fr w (h.of hF hs) rfl hl (TabF.st rfl hT hF hs) hlin rfl) rfl ?_)
    (repeat (first | refine VC.seq ?_ | refine VC.region ?_ | refine VC.block ?_ | refine VC.label ?_ | refine VC.scope ?_ | refine VO.go (VO.nil ?_) | refine VO.go (VO.ld 0 rfl rfl rfl rfl ?_)))
    refine VO.go (VO.call (Lc := []) (fun Fr w hF hs hS => order_spec Fr w (h.of hF hs) hl (TabF.st rfl hT hF hs)) rfl rfl ?_)
    rw [hord]
    rintro _ _ (⟨ho, rfl, rfl⟩ | ⟨o, a', c', ho, rfl, hc', rfl⟩)
    case inr => cases ho
    (repeat (first | refine VC.seq ?_ | refine VC.region ?_ | refine VC.block ?_ | refine VC.label ?_ | refine VC.scope ?_ | refine VO.go (VO.nil ?_) | refine VO.go (VO.ld 0 rfl rfl rfl rfl ?_)))
    refine VC.condNE rfl (fun h3 => ?_) (fun h3 => (hc h3).elim)
    (repeat (first | refine VC.seq ?_ | refine VC.region ?_ | refine VC.block ?_ | refine VC.label ?_ | refine VC.scope ?_ | refine VO.go (VO.nil ?_) | refine VO.go (VO.ld 0 rfl rfl rfl rfl ?_)))
    refine VO.go (VO.yes 54 true rfl (beq_self_eq_true _) ?_)
    (repeat (first | refine VC.seq ?_ | refine VC.region ?_ | refine VC.block ?_ | refine VC.label ?_ | refine VC.scope ?_ | refine VO.go (VO.nil ?_) | refine VO.go (VO.ld 0 rfl rfl rfl rfl ?_) | refine VO.go (VO.offU rfl rfl rfl ?_)))
    refine VO.go (VO.yes 58 true rfl rfl ?_)
    (repeat (first | refine VC.seq ?_ | refine VC.region ?_ | refine VC.block ?_ | refine VC.label ?_ | refine VC.scope ?_ | refine VO.go (VO.nil ?_) | refine VO.go (VO.ld 0 rfl rfl rfl rfl ?_) | refine VO.go (VO.offU rfl rfl rfl ?_)))
    refine VO.go (VO.yes 63 true rfl rfl ?_)
    (repeat (first | refine VC.seq ?_ | refine VC.region ?_ | refine VC.block ?_ | refine VC.label ?_ | refine VC.scope ?_ | refine VO.go (VO.nil ?_) | refine VO.go (VO.ld 0 rfl rfl rfl rfl ?_) | refine VO.go (VO.offU rfl rfl rfl ?_)))
    refine VO.go (VO.yes 67 true rfl rfl ?_)
    refine VO.go (VO.callV' (fun Fr w hF hs _ => found_spec Fr w (TabF.st rfl hT hF hs)) rfl ?_)
    (repeat (first | refine VC.seq ?_ | refine VC.region ?_ | refine VC.block ?_ | refine VC.label ?_ | refine VC.scope ?_ | refine VO.go (VO.nil ?_) | refine VO.go (VO.ld 0 rfl rfl rfl rfl ?_)))
    exact VC.ret (Ret.tmp 2 rfl rfl Imp.nil.ent ⟨rfl, rfl⟩)
end Go.Proofs.YthabecjplpomhaaDoor.Br
