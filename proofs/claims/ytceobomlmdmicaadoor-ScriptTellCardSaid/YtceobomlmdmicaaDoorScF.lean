/- ScriptBack: what is put of steps is read as these. No condition but what the listed variables hold. -/
import Derived.Test.YtceobomlmdmicaaDoorScE
namespace Go.Proofs.YtceobomlmdmicaaDoor.Scr
open Go Go.Proofs.YtceobomlmdmicaaDoor.Vg Go.Proofs.YtceobomlmdmicaaDoor.T Go.Proofs.YtceobomlmdmicaaDoor.Api Go.Proofs.YtceobomlmdmicaaDoor.LibC
set_option linter.unusedSimpArgs false
set_option linter.unusedVariables false
attribute [local irreducible] VO VC VA

structure DoM.I (d : DoM) : Prop where
  kind : isI d.kind
  a : isI d.a
  b : isI d.b
  c : isI d.c
  opk : isI d.op.kind
  opv : isI d.op.version
theorem readM_take {l : List DoM} {j : Nat} {d : DoM} (hd : l[j]? = some d) (hk : isK d.kind = true) : (readM l)[(readM (l.take j)).length]? = some (normD d) ∧ readM (l.take (j + 1)) = readM (l.take j) ++ [normD d] := by
  obtain ⟨h1, h2⟩ := List.getElem?_eq_some_iff.1 hd
  have e : l = l.take j ++ d :: l.drop (j + 1) := by rw [← h2, ← List.drop_eq_getElem_cons h1, List.take_append_drop]
  constructor
  · conv => lhs; rw [e]
    rw [readM_app, show readM (d :: l.drop (j + 1)) = normD d :: readM (l.drop (j + 1)) by simp [readM, hk]]
    have : (l.take j ++ d :: l.drop (j + 1)).take j = l.take j := by rw [← e]
    rw [this]; simp
  · rw [List.take_add_one, hd, readM_app]; simp [readM, hk]

set_option maxRecDepth 100000 in
set_option maxHeartbeats 2000000 in
theorem back_spec (Fr : Nat → Prop) (w : World) {a : Option Addr} {cap : Nat} {l : List DoM} (h : RwIn doC 8 Fr w a l) (hl : l.length ≤ 9223372036854775807) (hI : ∀ d ∈ l, d.I) (hG : GlobF Fr w) (hK : KindsF Fr w) :
    Tri Tryd.prog 4 [.slice a l.length cap] Fr w [] (fun v L => v = .bool true ∧ L = []) := by
  refine Tri.of 99 Tryd.func4 rfl (by kernel_rfl) tabOk rfl rfl ?_
  (repeat (first | refine VC.seq ?_ | refine VC.region ?_ | refine VC.block ?_ | refine VC.label ?_ | refine VC.scope ?_ | refine VO.go (VO.nil ?_) | refine VO.go (VO.ld 0 rfl rfl rfl rfl ?_)))
  refine VO.go (VO.callV' (fun Fr w hF hw _ => sgreat_spec Fr w (h.of hF hw) hl 60) rfl ?_)
  (repeat (first | refine VC.seq ?_ | refine VC.region ?_ | refine VC.block ?_ | refine VC.label ?_ | refine VC.scope ?_ | refine VO.go (VO.nil ?_) | refine VO.go (VO.ld 0 rfl rfl rfl rfl ?_)))
  refine VC.cond rfl (fun _ => ?_) (fun hg => VC.skip ?_)
  · (repeat (first | refine VC.seq ?_ | refine VC.region ?_ | refine VC.block ?_ | refine VC.label ?_ | refine VC.scope ?_ | refine VO.go (VO.nil ?_) | refine VO.go (VO.ld 0 rfl rfl rfl rfl ?_)))
    refine VO.go (VO.callV' (fun Fr w hF hw _ => written_spec Fr w (GlobF.st (X := ⟨Tryd.prog, tab, tabOk, 99, _, _⟩) hG hF hw) (KindsF.st (X := ⟨Tryd.prog, tab, tabOk, 99, _, _⟩) hK hF hw)) rfl ?_)
    (repeat (first | refine VC.seq ?_ | refine VC.region ?_ | refine VC.block ?_ | refine VC.label ?_ | refine VC.scope ?_ | refine VO.go (VO.nil ?_) | refine VO.go (VO.ld 0 rfl rfl rfl rfl ?_)))
    exact VC.ret (Ret.tmp 2 rfl rfl Imp.nil.ent ⟨rfl, rfl⟩)
  obtain ⟨hl60, hsz⟩ := greatD_no hg
  have hok : ∀ d ∈ l, d.Ok := fun d hd => ⟨(hI d hd).kind, (hI d hd).a, (hI d hd).b, (hI d hd).c, (hI d hd).opk, (hI d hd).opv, by have := hsz d hd; omega, by have := hsz d hd; omega⟩
  have hplen : (putL l).length ≤ 16500 * l.length := flatMap_len fun d hd => lineL_len (hok d hd)
  have hrl : (readM l).length ≤ l.length := by simp only [readM, List.length_map]; exact List.length_filter_le _ _
  have hrok : ∀ d ∈ readM l, d.Ok := fun d hd => by
    obtain ⟨x, hx, rfl⟩ := List.mem_map.1 hd
    obtain ⟨hx1, hx2⟩ := List.mem_filter.1 hx
    exact normD_ok (hok x hx1) hx2
  (repeat (first | refine VC.seq ?_ | refine VC.region ?_ | refine VC.block ?_ | refine VC.label ?_ | refine VC.scope ?_ | refine VO.go (VO.nil ?_) | refine VO.go (VO.ld 0 rfl rfl rfl rfl ?_)))
  refine VO.go (VO.callV' (fun Fr w hF hw _ => put_spec Fr w (h.of hF hw) (by omega) hok (TabF.st rfl hG.tab hF hw) (KindsF.st (X := ⟨Tryd.prog, tab, tabOk, 99, _, _⟩) hK hF hw)) rfl ?_)
  (repeat (first | refine VC.seq ?_ | refine VC.region ?_ | refine VC.block ?_ | refine VC.label ?_ | refine VC.scope ?_ | refine VO.go (VO.nil ?_) | refine VO.go (VO.ld 0 rfl rfl rfl rfl ?_)))
  refine VO.go (VO.call (Lc := []) (fun Fr w hF hw _ => get_at Fr w (get_put hok) (by rw [toB_size]; omega) (GlobF.st (X := ⟨Tryd.prog, tab, tabOk, 99, _, _⟩) hG hF hw) (KindsF.st (X := ⟨Tryd.prog, tab, tabOk, 99, _, _⟩) hK hF hw)) rfl rfl ?_)
  rintro _ _ ⟨ma, mc, rfl, rfl⟩
  (repeat (first | refine VC.seq ?_ | refine VC.region ?_ | refine VC.block ?_ | refine VC.label ?_ | refine VC.scope ?_ | refine VO.go (VO.nil ?_) | refine VO.go (VO.ld 0 rfl rfl rfl rfl ?_)))
  refine VO.go (VO.yes 22 false rfl rfl ?_)
  (repeat (first | refine VC.seq ?_ | refine VC.region ?_ | refine VC.block ?_ | refine VC.label ?_ | refine VC.scope ?_ | refine VO.go (VO.nil ?_) | refine VO.go (VO.ld 0 rfl rfl rfl rfl ?_) | refine VO.go (VO.offU rfl rfl rfl ?_)))
  refine VO.go (VO.yes 26 false rfl rfl ?_)
  (repeat (first | refine VC.seq ?_ | refine VC.region ?_ | refine VC.block ?_ | refine VC.label ?_ | refine VC.scope ?_ | refine VO.go (VO.nil ?_) | refine VO.go (VO.ld 0 rfl rfl rfl rfl ?_) | refine VO.go (VO.offU rfl rfl rfl ?_)))
  refine VO.go (VO.callV' (fun Fr w hF hw hS => put_spec Fr w (RwIn.sl (cap := mc) doC_len (hS.at_ 0 rfl)) (by omega) hrok (TabF.st rfl hG.tab hF hw) (KindsF.st (X := ⟨Tryd.prog, tab, tabOk, 99, _, _⟩) hK hF hw)) rfl ?_)
  rw [putL_read]
  (repeat (first | refine VC.seq ?_ | refine VC.region ?_ | refine VC.block ?_ | refine VC.label ?_ | refine VC.scope ?_ | refine VO.go (VO.nil ?_) | refine VO.go (VO.ld 0 rfl rfl rfl rfl ?_) | refine VO.go (VO.offU rfl rfl rfl ?_)))
  refine VC.cond (t := false) (by simp [Vg.ev, Vg.look]) (fun hh => by cases hh) (fun _ => VC.skip ?_)
  refine VC.opn 0 rfl (HOpn.rl _ ma mc (readM l) doC_len) ?_
  rintro r ⟨hokr, hv, hx⟩
  rw [← hv]
  (repeat (first | refine VC.seq ?_ | refine VC.region ?_ | refine VC.block ?_ | refine VC.label ?_ | refine VC.scope ?_ | refine VO.go (VO.nil ?_) | refine VO.go (VO.ld 0 rfl rfl rfl rfl ?_)))
  refine VC.loop (σ := Nat) (fun j => [(0, .slice a l.length cap), (4, r.v), (7, .int .i64 (readM (l.take j)).length), (8, .int .i64 j)]) (fun _ => [r.h 30]) (fun j => j ≤ l.length) (fun j => l.length - j) 0
    (Nat.zero_le _) (Sub.cons rfl (Sub.cons rfl (Sub.cons rfl (Sub.cons rfl (Sub.nil _))))) Ent.refl ?_
  intro j hj
  (repeat (first | refine VC.seq ?_ | refine VC.region ?_ | refine VC.block ?_ | refine VC.label ?_ | refine VC.scope ?_ | refine VO.go (VO.nil ?_) | refine VO.go (VO.ld 0 rfl rfl rfl rfl ?_)))
  refine VC.condP rfl (fun h2 => VC.skip ?_) (fun h2 => VC.exit ?_)
  · have hj2 : j < l.length := by omega
    obtain ⟨d, hd⟩ : ∃ d, l[j]? = some d := ⟨_, List.getElem?_eq_getElem hj2⟩
    obtain ⟨fb, fo, rfl, ra, rc⟩ := RwIn.rd (X := ⟨Tryd.prog, tab, tabOk, 99, Fr, w⟩) h hd
    refine VC.seq (VC.block (VC.seq (VC.seq ?_)))
    refine VC.meetS (σ := Bool) (fun t => [(0, .slice (some ⟨fb, fo, none⟩) l.length cap), (4, r.v), (7, .int .i64 (readM (l.take j)).length), (8, .int .i64 j), (51, .bool t)]) (fun _ => [r.h 30]) (fun t => t = !isK d.kind) ?_ ?_
    · refine VC.region ?_
      (repeat (first | refine VC.seq ?_ | refine VC.region ?_ | refine VC.block ?_ | refine VC.label ?_ | refine VC.scope ?_ | refine VO.go (VO.nil ?_) | refine VO.go (VO.ld 0 rfl rfl rfl rfl ?_)))
      refine VO.go (VO.light (light_idx j rfl rfl rfl rfl rfl rfl hj2) ?_)
      (repeat (first | refine VC.seq ?_ | refine VC.region ?_ | refine VC.block ?_ | refine VC.label ?_ | refine VC.scope ?_ | refine VO.go (VO.nil ?_) | refine VO.go (VO.ld 0 rfl rfl rfl rfl ?_)))
      refine VO.go (VO.load rfl rfl (rc _ _ 0 _ rfl rfl) ?_)
      (repeat (first | refine VC.seq ?_ | refine VC.region ?_ | refine VC.block ?_ | refine VC.label ?_ | refine VC.scope ?_ | refine VO.go (VO.nil ?_) | refine VO.go (VO.ld 0 rfl rfl rfl rfl ?_)))
      refine VO.go (VO.split 44 rfl rfl (fun h3 => ?_) (fun h3 => ?_))
      · have h3 := of_decide_eq_true h3
        (repeat (first | refine VC.seq ?_ | refine VC.region ?_ | refine VC.block ?_ | refine VC.label ?_ | refine VC.scope ?_ | refine VO.go (VO.nil ?_) | refine VO.go (VO.ld 0 rfl rfl rfl rfl ?_) | refine VO.go (VO.offU rfl rfl rfl ?_)))
        exact ⟨_, by simp [isK]; omega, Sub.cons rfl (Sub.cons rfl (Sub.cons rfl (Sub.cons rfl (Sub.cons rfl (Sub.nil _))))), Ent.refl⟩
      · have h3 := of_decide_eq_false h3
        (repeat (first | refine VC.seq ?_ | refine VC.region ?_ | refine VC.block ?_ | refine VC.label ?_ | refine VC.scope ?_ | refine VO.go (VO.nil ?_) | refine VO.go (VO.ld 0 rfl rfl rfl rfl ?_) | refine VO.go (VO.offU rfl rfl rfl ?_)))
        refine VO.go (VO.light (light_idx j rfl rfl rfl rfl rfl rfl hj2) ?_)
        (repeat (first | refine VC.seq ?_ | refine VC.region ?_ | refine VC.block ?_ | refine VC.label ?_ | refine VC.scope ?_ | refine VO.go (VO.nil ?_) | refine VO.go (VO.ld 0 rfl rfl rfl rfl ?_) | refine VO.go (VO.offU rfl rfl rfl ?_)))
        refine VO.go (VO.load rfl rfl (rc _ _ 0 _ rfl rfl) ?_)
        (repeat (first | refine VC.seq ?_ | refine VC.region ?_ | refine VC.block ?_ | refine VC.label ?_ | refine VC.scope ?_ | refine VO.go (VO.nil ?_) | refine VO.go (VO.ld 0 rfl rfl rfl rfl ?_) | refine VO.go (VO.offU rfl rfl rfl ?_)))
        exact ⟨_, by have g : 1 ≤ d.kind := by omega
                     simp [isK, g]; by_cases g2 : d.kind ≤ 11 <;> simp [g2] <;> omega, Sub.cons rfl (Sub.cons rfl (Sub.cons rfl (Sub.cons rfl (Sub.cons rfl (Sub.nil _))))), Ent.refl⟩
    intro t ht
    refine VC.cond rfl (fun h3 => ?_) (fun h3 => VC.skip ?_)
    · have hk : isK d.kind = false := by rw [h3] at ht; cases hh : isK d.kind with
        | false => rfl
        | true => rw [hh] at ht; cases ht
      have e : readM (l.take (j + 1)) = readM (l.take j) := by rw [List.take_add_one, hd, readM_app]; simp [readM, hk]
      refine VC.seq (VC.seq (VC.draw (ts 0 8 (.only 8 .nil)) (by kernel_rfl) (by decide +kernel) ?_))
      (repeat (first | refine VA.go (VA.nil ?_) | refine VA.go (VA.ld 0 rfl rfl rfl rfl rfl ?_) | refine VA.go (VA.offU rfl rfl rfl rfl ?_)))
      refine VA.go (VA.light rfl (light_idx j rfl rfl rfl rfl rfl rfl hj2) ?_)
      refine VA.go (VA.load rfl rfl rfl (ra _ _ rfl rfl) ?_)
      (repeat (first | refine VA.go (VA.nil ?_) | refine VA.go (VA.ld 0 rfl rfl rfl rfl rfl ?_) | refine VA.go (VA.offU rfl rfl rfl rfl ?_)))
      refine VA.go (VA.light rfl (light_idx j rfl rfl rfl rfl rfl rfl hj2) ?_)
      refine VA.go (VA.load rfl rfl rfl (ra _ _ rfl rfl) ?_)
      refine VA.go (VA.callR (fun Fr w hF hs hS => same_spec Fr w d d (KindsF.st (X := ⟨Tryd.prog, tab, tabOk, 99, _, _⟩) hK hF hs)) rfl rfl (by (try refine Pd.st ?_); (repeat (first | exact Pd.nil | exact Pd.fnil | refine Pd.inner ?_ | refine Pd.skip (by decide +kernel) ?_ | refine Pd.fcons (RdL.blk (ra _ _ rfl rfl) rfl) ?_ | refine Pd.fcons ((ra _ _ rfl rfl)) ?_ | refine Pd.cons (RdL.blk (ra _ _ rfl rfl) rfl) ?_ | refine Pd.cons ((ra _ _ rfl rfl)) ?_ | refine Pd.fconsM ((ra _ _ rfl rfl)) ?_ | refine Pd.consM ((ra _ _ rfl rfl)) ?_))) ?_)
      rw [same_none hk]
      (repeat (first | refine VA.go (VA.nil ?_) | refine VA.go (VA.ld 0 rfl rfl rfl rfl rfl ?_) | refine VA.go (VA.offU rfl rfl rfl rfl ?_)))
      refine VC.condF rfl (VC.skip ?_)
      refine VC.exit ?_
      (repeat (first | refine VC.seq ?_ | refine VC.region ?_ | refine VC.block ?_ | refine VC.label ?_ | refine VC.scope ?_ | refine VO.go (VO.nil ?_) | refine VO.go (VO.ld 0 rfl rfl rfl rfl ?_)))
      refine VO.go (VO.add rfl rfl (by omega) (by omega) ?_)
      (repeat (first | refine VC.seq ?_ | refine VC.region ?_ | refine VC.block ?_ | refine VC.label ?_ | refine VC.scope ?_ | refine VO.go (VO.nil ?_) | refine VO.go (VO.ld 0 rfl rfl rfl rfl ?_)))
      exact ⟨j + 1, hj2, by dsimp only; omega, Sub.cons rfl (Sub.cons rfl (Sub.cons (by rw [e]; rfl) (Sub.cons rfl (Sub.nil _)))), Ent.refl⟩
    · have hk : isK d.kind = true := by rw [h3] at ht; cases hh : isK d.kind with
        | true => rfl
        | false => rw [hh] at ht; cases ht
      obtain ⟨e1, e2⟩ := readM_take hd hk
      have hat : (readM (l.take j)).length < (readM l).length := (List.getElem?_eq_some_iff.1 e1).1
      have hxa : r.xs[(readM (l.take j)).length]? = some (normD d) := by rw [hx]; exact e1
      obtain ⟨kb, ko, q1, q2, hrd⟩ := hokr.ld (t := 30) hxa rfl
      have hrv : r.v = .slice (some ⟨kb, ko, none⟩) (readM l).length r.cap := by rw [RL.v, hx, q2]
      refine VC.seq (VC.seq (VC.draw (ts 0 13 (.only 13 (ts 14 15 .nil))) (by kernel_rfl) (by decide +kernel) ?_))
      rw [hrv]
      (repeat (first | refine VA.go (VA.nil ?_) | refine VA.go (VA.ld 0 rfl rfl rfl rfl rfl ?_) | refine VA.go (VA.offU rfl rfl rfl rfl ?_)))
      refine VA.go (VA.yes 65 false rfl (decide_eq_false (by omega)) ?_)
      (repeat (first | refine VA.go (VA.nil ?_) | refine VA.go (VA.ld 0 rfl rfl rfl rfl rfl ?_) | refine VA.go (VA.offU rfl rfl rfl rfl ?_)))
      refine VA.go (VA.light rfl (light_idx (readM (l.take j)).length rfl rfl rfl rfl rfl rfl hat) ?_)
      refine VA.go (VA.load rfl rfl rfl ((hrd 0 rfl).1 _ rfl rfl) ?_)
      (repeat (first | refine VA.go (VA.nil ?_) | refine VA.go (VA.ld 0 rfl rfl rfl rfl rfl ?_) | refine VA.go (VA.offU rfl rfl rfl rfl ?_)))
      refine VA.go (VA.light rfl (light_idx j rfl rfl rfl rfl rfl rfl hj2) ?_)
      refine VA.go (VA.load rfl rfl rfl (ra _ _ rfl rfl) ?_)
      refine VA.go (VA.callR (fun Fr w hF hs hS => same_spec Fr w (normD d) d (KindsF.st (X := ⟨Tryd.prog, tab, tabOk, 99, _, _⟩) hK hF hs)) rfl rfl (by (try refine Pd.st ?_); (repeat (first | exact Pd.nil | exact Pd.fnil | refine Pd.inner ?_ | refine Pd.skip (by decide +kernel) ?_ | refine Pd.fcons (RdL.blk (ra _ _ rfl rfl) rfl) ?_ | refine Pd.fcons (RdL.blk ((hrd 0 rfl).1 _ rfl rfl) rfl) ?_ | refine Pd.fcons ((ra _ _ rfl rfl)) ?_ | refine Pd.fcons (((hrd 0 rfl).1 _ rfl rfl)) ?_ | refine Pd.cons (RdL.blk (ra _ _ rfl rfl) rfl) ?_ | refine Pd.cons (RdL.blk ((hrd 0 rfl).1 _ rfl rfl) rfl) ?_ | refine Pd.cons ((ra _ _ rfl rfl)) ?_ | refine Pd.cons (((hrd 0 rfl).1 _ rfl rfl)) ?_ | refine Pd.fconsM ((ra _ _ rfl rfl)) ?_ | refine Pd.fconsM (((hrd 0 rfl).1 _ rfl rfl)) ?_ | refine Pd.consM ((ra _ _ rfl rfl)) ?_ | refine Pd.consM (((hrd 0 rfl).1 _ rfl rfl)) ?_))) ?_)
      rw [same_norm hk]
      (repeat (first | refine VA.go (VA.nil ?_) | refine VA.go (VA.ld 0 rfl rfl rfl rfl rfl ?_) | refine VA.go (VA.offU rfl rfl rfl rfl ?_)))
      refine VA.go (VA.yes 77 false rfl rfl ?_)
      (repeat (first | refine VA.go (VA.nil ?_) | refine VA.go (VA.ld 0 rfl rfl rfl rfl rfl ?_) | refine VA.go (VA.offU rfl rfl rfl rfl ?_)))
      refine VA.go (VA.light rfl (light_idx (readM (l.take j)).length rfl rfl rfl rfl rfl rfl hat) ?_)
      (repeat (first | refine VA.go (VA.nil ?_) | refine VA.go (VA.ld 0 rfl rfl rfl rfl rfl ?_) | refine VA.go (VA.offU rfl rfl rfl rfl ?_)))
      refine VA.go (VA.load rfl rfl rfl ((hrd 0 rfl).2 _ 0 _ rfl rfl) ?_)
      (repeat (first | refine VA.go (VA.nil ?_) | refine VA.go (VA.ld 0 rfl rfl rfl rfl rfl ?_) | refine VA.go (VA.offU rfl rfl rfl rfl ?_)))
      refine VA.go (VA.light rfl (light_idx j rfl rfl rfl rfl rfl rfl hj2) ?_)
      (repeat (first | refine VA.go (VA.nil ?_) | refine VA.go (VA.ld 0 rfl rfl rfl rfl rfl ?_) | refine VA.go (VA.offU rfl rfl rfl rfl ?_)))
      refine VA.go (VA.load rfl rfl rfl (rc _ _ 0 _ rfl rfl) ?_)
      (repeat (first | refine VA.go (VA.nil ?_) | refine VA.go (VA.ld 0 rfl rfl rfl rfl rfl ?_) | refine VA.go (VA.offU rfl rfl rfl rfl ?_)))
      refine VC.cond (t := false) (by simp [Vg.ev, Vg.look, normD_kind]) (fun hh => by cases hh) (fun _ => VC.skip ?_)
      (repeat (first | refine VC.seq ?_ | refine VC.region ?_ | refine VC.block ?_ | refine VC.label ?_ | refine VC.scope ?_ | refine VO.go (VO.nil ?_) | refine VO.go (VO.ld 0 rfl rfl rfl rfl ?_)))
      refine VO.go (VO.add rfl rfl (by omega) (by omega) ?_)
      (repeat (first | refine VC.seq ?_ | refine VC.region ?_ | refine VC.block ?_ | refine VC.label ?_ | refine VC.scope ?_ | refine VO.go (VO.nil ?_) | refine VO.go (VO.ld 0 rfl rfl rfl rfl ?_)))
      refine VO.go (VO.add rfl rfl (by omega) (by omega) ?_)
      (repeat (first | refine VC.seq ?_ | refine VC.region ?_ | refine VC.block ?_ | refine VC.label ?_ | refine VC.scope ?_ | refine VO.go (VO.nil ?_) | refine VO.go (VO.ld 0 rfl rfl rfl rfl ?_)))
      rw [← hrv]
      exact ⟨j + 1, hj2, by dsimp only; omega, Sub.cons rfl (Sub.cons rfl (Sub.int rfl (by rw [e2]; simp) (Sub.cons rfl (Sub.nil _)))), Ent.refl⟩
  · obtain rfl : j = l.length := by omega
    rw [List.take_length]
    have hrn : r.v = .slice r.addr (readM l).length r.cap := by rw [RL.v, hx]
    rw [hrn]
    (repeat (first | refine VC.seq ?_ | refine VC.region ?_ | refine VC.block ?_ | refine VC.label ?_ | refine VC.scope ?_ | refine VO.go (VO.nil ?_) | refine VO.go (VO.ld 0 rfl rfl rfl rfl ?_)))
    refine VO.go (VO.yes 96 true rfl (by simp) ?_)
    refine VO.go (VO.callV' (fun Fr w hF hw _ => written_spec Fr w (GlobF.st (X := ⟨Tryd.prog, tab, tabOk, 99, _, _⟩) hG hF hw) (KindsF.st (X := ⟨Tryd.prog, tab, tabOk, 99, _, _⟩) hK hF hw)) rfl ?_)
    (repeat (first | refine VC.seq ?_ | refine VC.region ?_ | refine VC.block ?_ | refine VC.label ?_ | refine VC.scope ?_ | refine VO.go (VO.nil ?_) | refine VO.go (VO.ld 0 rfl rfl rfl rfl ?_) | refine VO.go (VO.offU rfl rfl rfl ?_)))
    exact VC.ret (Ret.tmp 2 rfl rfl Imp.nil.ent ⟨rfl, rfl⟩)
end Go.Proofs.YtceobomlmdmicaaDoor.Scr
