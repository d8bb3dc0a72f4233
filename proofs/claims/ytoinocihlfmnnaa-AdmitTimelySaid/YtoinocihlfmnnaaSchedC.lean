/- The scheduler: copies. No condition. -/
import Derived.Test.YtoinocihlfmnnaaSched
import Derived.Test.YtoinocihlfmnnaaRingC
namespace Go.Proofs.Ytoinocihlfmnnaa.Sched
open Go Go.Proofs.Ytoinocihlfmnnaa.Vg Go.Proofs.Ytoinocihlfmnnaa.T Go.Proofs.Ytoinocihlfmnnaa.Api Go.Proofs.Ytoinocihlfmnnaa.Ring
set_option linter.unusedSimpArgs false
set_option linter.unusedVariables false
attribute [local irreducible] VO VC VA

structure CopyI (S : SchM) (x : Nat × Option Addr × Nat × List Row) : Prop where
  le : x.1 ≤ S.cls.length
  room : x.1 ≤ x.2.2.1
  rows : x.2.2.2.map Prod.snd = S.cls.take x.1
theorem CopyI.len {S : SchM} {x : Nat × Option Addr × Nat × List Row} (h : CopyI S x) : x.2.2.2.length = x.1 := by
  have := congrArg List.length h.rows
  have h2 := h.le
  simp only [List.length_map, List.length_take] at this
  omega

set_option maxRecDepth 100000 in
theorem copy_spec (Fr : Nat → Prop) (w : World) {p : Nat} {S : SchM} (h : SatIn Fr [schH p S] w) : Tri Try.prog 38 [.pointer (some ⟨p, 0, none⟩)] Fr w [] (fun v L => ∃ p', v = .pointer (some ⟨p', 0, none⟩) ∧ L = [schH p' S]) := by
  obtain ⟨s, h⟩ := SchIn.of h
  have hb := h.sch
  have hn := h.ok.len
  have hn0 := h.ok.wf.n0
  have hn4 := h.ok.wf.n1
  refine Tri.of 43 Try.func38 rfl (by kernel_rfl) tabOk rfl rfl ?_
  (repeat (first | refine VC.seq ?_ | refine VC.region ?_ | refine VC.block ?_ | refine VC.label ?_ | refine VC.scope ?_ | refine VO.go (VO.nil ?_) | refine VO.go (VO.ld 0 rfl rfl rfl rfl ?_)))
  refine VO.go (VO.callV' (fun Fr w hF hs _ => none_spec Fr w (hb.of hF hs)) rfl (VO.go (VO.nil ?_)))
  refine VC.condP rfl (fun h0 => by omega) (fun _ => VC.skip ?_)
  refine VC.seq (VC.draw (ts 0 9 (.only 9 (.take 10 .nil))) (by kernel_rfl) (by kernel_rfl) ?_)
  (repeat (first | refine VA.go (VA.nil ?_) | refine VA.go (VA.load rfl rfl rfl (RdL.blk hb rfl) ?_)))
  refine VA.go (VA.light rfl (light_build (pv := [(1, .int .i64 S.turn), (2, .bool S.fresh)]) [.slice none 0 0, .int .i64 S.turn, .bool S.fresh] rfl rfl rfl rfl rfl) ?_)
  refine VA.go (VA.opP (OpT.box (vs := [.slice none 0 0, .int .i64 S.turn, .bool S.fresh]) rfl rfl) rfl ?_ ?_)
  · rintro _ _ ⟨np, rfl, rfl⟩
    exact (by (try refine Pd.st ?_); (repeat (first | exact Pd.nil | exact Pd.fnil | refine Pd.inner ?_ | refine Pd.skip (by decide +kernel) ?_ | refine Pd.fcons (RdL.blk hb rfl) ?_ | refine Pd.fcons (hb) ?_ | refine Pd.cons (RdL.blk hb rfl) ?_ | refine Pd.cons (hb) ?_)))
  rintro _ _ ⟨np, rfl, rfl⟩
  (repeat (first | refine VA.go (VA.nil ?_) | refine VA.go (VA.ld 0 rfl rfl rfl rfl rfl ?_)))
  (repeat (first | refine VC.seq ?_ | refine VC.region ?_ | refine VC.block ?_ | refine VC.label ?_ | refine VC.scope ?_ | refine VO.go (VO.nil ?_) | refine VO.go (VO.load rfl rfl (RdL.blk hb rfl) ?_)))
  refine VC.loop (σ := Nat × Option Addr × Nat × List Row) (fun x => [(3, .pointer (some ⟨np, 0, none⟩)), (21, .slice (some ⟨s.cb, 0, none⟩) s.rows.length s.ccap), (22, .int .i64 s.rows.length), (23, .int .i64 x.1)]) (fun x => pt np [.slice x.2.1 x.1 x.2.2.1, .int .i64 S.turn, .bool S.fresh] 92 :: slH 97 4 x.2.1 x.1 x.2.2.1 (flat clsCs x.2.2.2) :: x.2.2.2.map fun r => ringH r.1 r.2.q S.cap) (CopyI S) (fun x => 4 - x.1) (0, none, 0, []) ⟨Nat.zero_le _, Nat.le_refl _, rfl⟩ (Sub.cons rfl (Sub.cons rfl (Sub.cons rfl (Sub.cons rfl (Sub.nil _))))) (Imp.cons (Imp.slNil Imp.refl)).ent ?_
  rintro ⟨i, a, c, rows⟩ hI
  have hle := hI.le; have hroom := hI.room; have hlen := hI.len; have hrows := hI.rows
  dsimp only at hle hroom hlen hrows ⊢
  (repeat (first | refine VC.seq ?_ | refine VC.region ?_ | refine VC.block ?_ | refine VC.label ?_ | refine VC.scope ?_ | refine VO.go (VO.nil ?_) | refine VO.go (VO.ld 0 rfl rfl rfl rfl ?_)))
  refine VC.condP rfl (fun h1 => ?_) (fun h1 => ?_)
  · have hk : i < S.cls.length := by omega
    obtain ⟨q, cl, hr, hc⟩ := h.ok.row hk
    have hrow : ((flat clsCs s.rows ++ s.rest).drop (0 + i * 4)).take 4 = clsCs (q, cl) := by rw [Nat.zero_add]; exact flat_row clsCs_len hr _
    refine VC.skip ?_
    (repeat (first | refine VC.seq ?_ | refine VC.region ?_ | refine VC.block ?_ | refine VC.label ?_ | refine VC.scope ?_ | refine VO.go (VO.nil ?_) | refine VO.go (VO.ld 0 rfl rfl rfl rfl ?_)))
    refine VO.go (VO.light (light_idx i rfl rfl rfl rfl rfl rfl (by omega)) ?_)
    refine VO.go (VO.load rfl rfl (RdL.blkA h.cls hrow) (VO.go (VO.alloc rfl fun eb => VO.go (VO.stA (vs := clsCs (q, cl)) (cs' := clsCs (q, cl)) 0 rfl rfl rfl rfl (Nat.le_refl _) rfl rfl rfl (VO.go (VO.nil ?_))))))
    (repeat (first | refine VC.seq ?_ | refine VC.region ?_ | refine VC.block ?_ | refine VC.label ?_ | refine VC.scope ?_ | refine VO.go (VO.nil ?_) | refine VO.go (VO.ld 0 rfl rfl rfl rfl ?_)))
    refine VO.go (VO.call (Lc := []) (fun Fr w hF hs _ => Ring.copy_spec Fr w ((h.ring i _ hr).of hF hs)) rfl rfl ?_)
    rintro _ _ ⟨r, rfl, rfl⟩
    refine VO.go (VO.st 1 (cs' := clsCs (r, cl)) rfl rfl rfl rfl (by show 0 < 4; omega) rfl rfl (VO.go (VO.nil ?_)))
    refine VC.draw (ts 0 6 (.only 6 (.only 7 (ts 8 2 (.only 10 .nil))))) (by kernel_rfl) (by kernel_rfl) ?_
    refine VA.go (VA.ld 2 rfl rfl rfl rfl rfl (VA.go (VA.ldA 1 (clsCs (r, cl)) rfl rfl rfl rfl rfl ?_)))
    refine VA.go (VA.opP (OpT.buildSlice (n := 1) (pv := [(0, .agg (clsCs (r, cl)).toArray)]) (cells := clsCs (r, cl)) rfl rfl rfl rfl (by decide) (fill_one rfl rfl rfl)) rfl ?_ ?_)
    · rintro _ _ ⟨nb, rfl, rfl⟩
      exact (by (try refine Pd.st ?_); (repeat (first | exact Pd.nil | exact Pd.fnil | refine Pd.inner ?_ | refine Pd.skip (by decide +kernel) ?_ | refine Pd.fcons (RdL.one 0 rfl rfl) ?_ | refine Pd.fcons (RdL.one 1 rfl rfl) ?_ | refine Pd.fcons (RdL.one 2 rfl rfl) ?_ | refine Pd.fcons (RdL.one 3 rfl rfl) ?_ | refine Pd.fcons (RdL.many 0 rfl rfl) ?_ | refine Pd.fcons (RdL.many 1 rfl rfl) ?_ | refine Pd.fcons (RdL.many 2 rfl rfl) ?_ | refine Pd.fcons (RdL.many 3 rfl rfl) ?_ | refine Pd.cons (RdL.one 0 rfl rfl) ?_ | refine Pd.cons (RdL.one 1 rfl rfl) ?_ | refine Pd.cons (RdL.one 2 rfl rfl) ?_ | refine Pd.cons (RdL.one 3 rfl rfl) ?_ | refine Pd.cons (RdL.many 0 rfl rfl) ?_ | refine Pd.cons (RdL.many 1 rfl rfl) ?_ | refine Pd.cons (RdL.many 2 rfl rfl) ?_ | refine Pd.cons (RdL.many 3 rfl rfl) ?_)))
    rintro _ _ ⟨nb, rfl, rfl⟩
    refine VA.go (VA.opP (OpT.append (m := 1) (news := clsCs (r, cl)) 4 rfl rfl rfl rfl rfl rfl rfl (RdRow.pt 0 rfl rfl rfl) rfl (by show (i + 1) * 32 ≤ _; omega) (by omega)) rfl ?_ ?_)
    · rintro _ _ ⟨a', c', rfl, hc', rfl⟩
      exact (by (try refine Pd.st ?_); (repeat (first | exact Pd.nil | exact Pd.fnil | refine Pd.inner ?_ | refine Pd.skip (by decide +kernel) ?_ | refine Pd.fcons (RdL.one 0 rfl rfl) ?_ | refine Pd.fcons (RdL.one 1 rfl rfl) ?_ | refine Pd.fcons (RdL.one 2 rfl rfl) ?_ | refine Pd.fcons (RdL.one 3 rfl rfl) ?_ | refine Pd.fcons (RdL.one 4 rfl rfl) ?_ | refine Pd.fcons (RdL.many 0 rfl rfl) ?_ | refine Pd.fcons (RdL.many 1 rfl rfl) ?_ | refine Pd.fcons (RdL.many 2 rfl rfl) ?_ | refine Pd.fcons (RdL.many 3 rfl rfl) ?_ | refine Pd.fcons (RdL.many 4 rfl rfl) ?_ | refine Pd.cons (RdL.one 0 rfl rfl) ?_ | refine Pd.cons (RdL.one 1 rfl rfl) ?_ | refine Pd.cons (RdL.one 2 rfl rfl) ?_ | refine Pd.cons (RdL.one 3 rfl rfl) ?_ | refine Pd.cons (RdL.one 4 rfl rfl) ?_ | refine Pd.cons (RdL.many 0 rfl rfl) ?_ | refine Pd.cons (RdL.many 1 rfl rfl) ?_ | refine Pd.cons (RdL.many 2 rfl rfl) ?_ | refine Pd.cons (RdL.many 3 rfl rfl) ?_ | refine Pd.cons (RdL.many 4 rfl rfl) ?_)))
    rintro _ _ ⟨a', c', rfl, hc', rfl⟩
    refine VA.go (VA.st 4 rfl rfl rfl rfl rfl (by show 0 < 3; omega) rfl rfl (by (try refine Pd.st ?_); (repeat (first | exact Pd.nil | exact Pd.fnil | refine Pd.inner ?_ | refine Pd.skip (by decide +kernel) ?_ | refine Pd.fcons (RdL.one 0 rfl rfl) ?_ | refine Pd.fcons (RdL.one 1 rfl rfl) ?_ | refine Pd.fcons (RdL.one 2 rfl rfl) ?_ | refine Pd.fcons (RdL.one 3 rfl rfl) ?_ | refine Pd.fcons (RdL.one 4 rfl rfl) ?_ | refine Pd.fcons (RdL.many 0 rfl rfl) ?_ | refine Pd.fcons (RdL.many 1 rfl rfl) ?_ | refine Pd.fcons (RdL.many 2 rfl rfl) ?_ | refine Pd.fcons (RdL.many 3 rfl rfl) ?_ | refine Pd.fcons (RdL.many 4 rfl rfl) ?_ | refine Pd.cons (RdL.one 0 rfl rfl) ?_ | refine Pd.cons (RdL.one 1 rfl rfl) ?_ | refine Pd.cons (RdL.one 2 rfl rfl) ?_ | refine Pd.cons (RdL.one 3 rfl rfl) ?_ | refine Pd.cons (RdL.one 4 rfl rfl) ?_ | refine Pd.cons (RdL.many 0 rfl rfl) ?_ | refine Pd.cons (RdL.many 1 rfl rfl) ?_ | refine Pd.cons (RdL.many 2 rfl rfl) ?_ | refine Pd.cons (RdL.many 3 rfl rfl) ?_ | refine Pd.cons (RdL.many 4 rfl rfl) ?_))) ?_)
    (repeat (first | refine VA.go (VA.nil ?_) | refine VA.go (VA.ld 0 rfl rfl rfl rfl rfl ?_)))
    (repeat (first | refine VC.seq ?_ | refine VC.region ?_ | refine VC.block ?_ | refine VC.label ?_ | refine VC.scope ?_ | refine VO.go (VO.nil ?_) | refine VO.go (VO.ld 0 rfl rfl rfl rfl ?_)))
    refine VO.go (VO.add rfl rfl (by omega) (by omega) ?_)
    (repeat (first | refine VC.seq ?_ | refine VC.region ?_ | refine VC.block ?_ | refine VC.label ?_ | refine VC.scope ?_ | refine VO.go (VO.nil ?_) | refine VO.go (VO.ld 0 rfl rfl rfl rfl ?_)))
    have htake : S.cls.take (i + 1) = S.cls.take i ++ [cl] := by rw [List.take_add_one, hc]; rfl
    refine ⟨(i + 1, a', c', rows ++ [(r, cl)]), ⟨hk, hc', ?_⟩, by dsimp only; omega, Sub.cons rfl (Sub.cons rfl (Sub.cons rfl (Sub.cons rfl (Sub.nil _)))), ?_⟩
    · dsimp only; rw [List.map_append, hrows, htake]; rfl
    · have e1 : Imp (ringH r cl.q S.cap :: rows.map fun r : Row => ringH r.1 r.2.q S.cap) ((rows ++ [(r, cl)]).map fun r : Row => ringH r.1 r.2.q S.cap) := by
        rw [List.map_append]
        exact Imp.perm (List.perm_append_comm (l₁ := [ringH r cl.q S.cap]))
      have e2 : flat clsCs rows ++ clsCs (r, cl) = flat clsCs (rows ++ [(r, cl)]) := by simp [flat_append, flat_cons, flat_nil]
      rw [e2]
      refine (Imp.pick 4 rfl ?_).ent
      exact Imp.pick 0 rfl (Imp.trans Imp.tl (Imp.trans (Imp.cons Imp.tl) e1))
  · have hk : i = S.cls.length := by omega
    subst hk
    rw [List.take_length] at hrows
    refine VC.exit ?_
    (repeat (first | refine VC.seq ?_ | refine VC.region ?_ | refine VC.block ?_ | refine VC.label ?_ | refine VC.scope ?_ | refine VO.go (VO.nil ?_) | refine VO.go (VO.ld 0 rfl rfl rfl rfl ?_)))
    refine VC.opn 1 rfl (HOpn.sl _ _ _ _ _ _) fun x hx => ?_
    obtain ⟨hx1, hx2, hx3⟩ := hx
    cases x with
    | none => exact absurd hx3.2.1 (by omega)
    | some y =>
      obtain ⟨cb, rest⟩ := y
      obtain ⟨rfl, hx3⟩ := hx3
      refine VC.ret (Ret.tmp 2 rfl rfl (L' := [schH np S]) ?_ ⟨np, rfl, rfl⟩)
      refine (Imp.sch (M := []) ⟨cb, c, rest, rows⟩ ⟨h.ok.wf, hrows, by dsimp only; omega⟩ ?_).ent
      have e : schCs S ⟨cb, c, rest, rows⟩ = [.slice (some ⟨cb, 0, none⟩) S.cls.length c, .int .i64 S.turn, .bool S.fresh] := by simp [schCs, hlen]
      unfold schL
      rw [e]
      refine Imp.pick 1 rfl ?_
      exact Imp.of_eq (by simp)
end Go.Proofs.Ytoinocihlfmnnaa.Sched
