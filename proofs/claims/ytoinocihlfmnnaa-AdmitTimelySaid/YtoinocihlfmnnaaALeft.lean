/- Layer 17's left: a list without one. No condition. -/
import Derived.Test.YtoinocihlfmnnaaALaw
import Derived.Laws.StructEq
import Derived.Test.YtoinocihlfmnnaaVgP
namespace Go.Proofs.Ytoinocihlfmnnaa.Adm
open Go Go.Proofs.Ytoinocihlfmnnaa.Vg Go.Proofs.Ytoinocihlfmnnaa.T Go.Proofs.Ytoinocihlfmnnaa.Api Go.Proofs.Ytoinocihlfmnnaa.Sched Go.Proofs.Ytoinocihlfmnnaa.Conf
set_option linter.unusedSimpArgs false
set_option linter.unusedVariables false
attribute [local irreducible] VO VC VA

abbrev T3 := Int × Int × Int
def tCs (t : T3) : List Value := [.int .i64 t.1, .int .i64 t.2.1, .int .i64 t.2.2]
theorem tCs_len (t : T3) : (tCs t).length = 3 := rfl
theorem tCs_one (t : T3) : (tCs t).all Value.oneCell' = true := rfl
theorem eqIn_ints {P : Program} {t : Nat} {k : IntKind} (ht : P.underlying t = some (.int k)) (d : Nat) (a b : Int) (w : World) : (Op.equalIn (d + 1) t (.int k a) (.int k b)).run P w = .ok (a == b) w := by
  rw [Op.equalIn, Sem.run_bind, run_underlying ht]
  simp
theorem t3_info : ∃ i, Try.prog.info? 3 = some i ∧ i.size = 1 := by
  obtain ⟨i, h1, h2, _⟩ := (TabOk.look tabOk (t := 3) (ti := T.t3) rfl).info'
  exact ⟨i, h1, h2⟩
theorem t3_equal (s t : T3) (w : World) : (Op.equalIn 10000 53 (.agg (tCs s).toArray) (.agg (tCs t).toArray)).run Try.prog w = .ok (decide (s = t)) w := by
  obtain ⟨s1, s2, s3⟩ := s
  obtain ⟨t1, t2, t3⟩ := t
  obtain ⟨i, hi, hs⟩ := t3_info
  show (Op.equalIn (9998 + 1 + 1) _ _ _).run _ w = _
  rw [Op.equalIn, Sem.run_bind, run_underlying Try.underlying53]
  simp only [Result.andThen_ok, tCs]
  rw [Sem.run_bind, run_size hi, hs]
  simp [Std.Legacy.Range.forIn_eq_forIn_range', List.range', part]
  rw [show (9999 : Nat) = 9998 + 1 from rfl]
  simp only [eqIn_ints Try.underlying3 9998, Result.andThen_ok]
  by_cases h1 : s1 = t1 <;> by_cases h2 : s2 = t2 <;> by_cases h3 : s3 = t3 <;> simp [h1, h2, h3]
theorem guard3 : Try.prog.eqGuardType Try.prog.depth 53 = false := by kernel_rfl
theorem light_neq3 {X : Cx} (hP : X.P = Try.prog) {e : Env} {x y : Operand} {yt : Nat} (s t : T3) (hx : ev e x = some (.agg (tCs s).toArray)) (hy : ev e y = some (.agg (tCs t).toArray)) : Light X (.binOp .neq 53 x y yt) e (.bool (!decide (s = t))) := by
  intro a ha dst ty pos after guard w
  simp only [execOp, ha.ev hx, ha.ev hy]
  have h : (do eqGuard .neq 53 x y (.agg (tCs s).toArray) (.agg (tCs t).toArray); binOp .neq 53 (.agg (tCs s).toArray) (.agg (tCs t).toArray) : Sem Value).run X.P w = .ok (.bool (!decide (s = t))) w := by
    have hg : (eqGuard .neq 53 x y (.agg (tCs s).toArray) (.agg (tCs t).toArray)).run Try.prog w = .ok () w := run_eqGuard_agg (hm := guard3) ..
    rw [hP, Sem.run_bind, hg, Result.andThen_ok, run_neq_struct, t3_equal s t w]
    rfl
  rw [Sem.run_bind, h]
  rfl

/-- Rows that lie where they stay. -/
structure RowsIn (Fr : Nat → Prop) (w : World) (a : Option Addr) (l : List T3) : Prop where
  at_ : l ≠ [] → ∃ b off, a = some ⟨b, off, none⟩ ∧ Fr b ∧ ∀ i t, l[i]? = some t → w.rangeAt b (off + i * 3) (tCs t)
theorem RowsIn.rl {Fr : Nat → Prop} {w : World} {r : RL T3} (hok : r.Ok tCs 3) (h : SatIn Fr [r.h 53] w) : RowsIn Fr w r.addr r.xs := ⟨fun hne => by
  obtain ⟨b, off, h1, h2, h3⟩ := hok.at_ hne
  rw [RL.h_pt h1] at h
  obtain ⟨t, fz, ht⟩ := (h.blk 0 rfl).at_
  exact ⟨b, off, h2, (h.blk 0 rfl).fr, fun i x hx => rangeAt_blk (n := 3) ht (h3 i x hx)⟩⟩
def triH (a : Option Addr) (c : Nat) (l : List T3) : HP := slH 53 3 a l.length c (flat tCs l)
theorem triH_snoc (a : Option Addr) (c : Nat) (l : List T3) (t : T3) : slH 53 3 a (l.length + 1) c (flat tCs l ++ tCs t) = triH a c (l ++ [t]) := by
  simp [triH, flat_append, flat_cons, flat_nil]
structure LeftI (l : List T3) (t : T3) (x : Nat × Option Addr × Nat × List T3) : Prop where
  le : x.1 ≤ l.length
  room : x.2.2.2.length ≤ x.2.2.1
  out : x.2.2.2 = (l.take x.1).filter fun y => !decide (y = t)
def without (l : List T3) (t : T3) : List T3 := l.filter fun y => !decide (y = t)
set_option maxRecDepth 100000 in
theorem left_spec (Fr : Nat → Prop) (w : World) (a : Option Addr) (cap : Nat) (l : List T3) (t : T3) (hl : RowsIn Fr w a l) (hlen : l.length ≤ 1000) :
    Tri Try.prog 15 [.slice a l.length cap, .int .i64 t.1, .int .i64 t.2.1, .int .i64 t.2.2] Fr w [] (fun v L => ∃ r : RL T3, r.Ok tCs 3 ∧ r.xs = without l t ∧ v = r.v ∧ L = [r.h 53]) := by
  refine Tri.of 34 Try.func15 rfl (by kernel_rfl) tabOk rfl rfl ?_
  (repeat (first | refine VC.seq ?_ | refine VC.region ?_ | refine VC.block ?_ | refine VC.label ?_ | refine VC.scope ?_ | refine VO.go (VO.nil ?_) | refine VO.go (VO.ld 0 rfl rfl rfl rfl ?_)))
  refine VC.loop (σ := Nat × Option Addr × Nat × List T3) (fun x => [(0, .slice a l.length cap), (1, .int .i64 t.1), (2, .int .i64 t.2.1), (3, .int .i64 t.2.2), (9, .slice x.2.1 x.2.2.2.length x.2.2.1), (10, .int .i64 x.1)]) (fun x => [triH x.2.1 x.2.2.1 x.2.2.2]) (LeftI l t) (fun x => l.length - x.1) (0, none, 0, []) ⟨Nat.zero_le _, Nat.le_refl _, rfl⟩ (Sub.cons rfl (Sub.cons rfl (Sub.cons rfl (Sub.cons rfl (Sub.cons rfl (Sub.cons rfl (Sub.nil _))))))) (Imp.slNil Imp.refl).ent ?_
  rintro ⟨i, a1, c1, xs⟩ ⟨hi, hroom, hout⟩
  dsimp only at hi hroom hout ⊢
  have hxl : xs.length ≤ 1000 := by
    have := List.length_filter_le (fun y => !decide (y = t)) (l.take i)
    rw [← hout] at this
    have := List.length_take_le i l
    omega
  (repeat (first | refine VC.seq ?_ | refine VC.region ?_ | refine VC.block ?_ | refine VC.label ?_ | refine VC.scope ?_ | refine VO.go (VO.nil ?_) | refine VO.go (VO.ld 0 rfl rfl rfl rfl ?_)))
  refine VC.condP rfl (fun h1 => VC.skip ?_) (fun h1 => VC.exit ?_)
  · have hi2 : i < l.length := by omega
    obtain ⟨b, off, rfl, hF, hcell⟩ := hl.at_ (fun e => by rw [e] at hi2; simp at hi2)
    have hx := List.getElem?_eq_getElem hi2
    generalize l[i] = x at hx
    have htake : l.take (i + 1) = l.take i ++ [x] := by rw [List.take_add_one, hx]; rfl
    have hr := hcell i x hx
    (repeat (first | refine VC.seq ?_ | refine VC.region ?_ | refine VC.block ?_ | refine VC.label ?_ | refine VC.scope ?_ | refine VO.go (VO.nil ?_) | refine VO.go (VO.ld 0 rfl rfl rfl rfl ?_)))
    refine VO.go (VO.light (light_idx i rfl rfl rfl rfl rfl rfl hi2) ?_)
    refine VO.go (VO.load rfl rfl (RdL.rd (v := .agg (tCs x).toArray) hF ⟨tCs x, rfl, rfl, hr⟩) ?_)
    refine VO.go (VO.light (light_buildArr (pv := [(0, .int .i64 t.1), (1, .int .i64 t.2.1), (2, .int .i64 t.2.2)]) (tCs t) rfl rfl rfl rfl rfl) ?_)
    refine VO.go (VO.light (light_neq3 rfl x t rfl rfl) (VO.go (VO.nil ?_)))
    refine VC.cond rfl (fun h2 => ?_) (fun h2 => VC.skip ?_)
    · (repeat (first | refine VC.seq ?_ | refine VC.region ?_ | refine VC.block ?_ | refine VC.label ?_ | refine VC.scope ?_ | refine VO.go (VO.nil ?_) | refine VO.go (VO.ld 0 rfl rfl rfl rfl ?_)))
      refine VO.go (VO.light (light_idx i rfl rfl rfl rfl rfl rfl hi2) ?_)
      refine VO.go (VO.load rfl rfl (RdL.rd (v := .agg (tCs x).toArray) hF ⟨tCs x, rfl, rfl, hr⟩) ?_)
      refine VO.go (VO.buildSlice (n := 1) (pv := [(0, .agg (tCs x).toArray)]) (tCs x) rfl rfl rfl rfl (by decide) (fill_one rfl rfl rfl) fun nb => ?_)
      refine VO.go (VO.append (m := 1) (news := tCs x) 1 rfl rfl rfl rfl rfl rfl rfl (RdRow.pt 0 rfl rfl rfl) rfl (by show (xs.length + 1) * 24 ≤ _; omega) (by omega) fun a2 c2 hc2 => VO.go (VO.nil ?_))
      (repeat (first | refine VC.seq ?_ | refine VC.region ?_ | refine VC.block ?_ | refine VC.label ?_ | refine VC.scope ?_ | refine VO.go (VO.nil ?_) | refine VO.go (VO.ld 0 rfl rfl rfl rfl ?_)))
      refine VO.go (VO.add rfl rfl (by omega) (by omega) ?_)
      (repeat (first | refine VC.seq ?_ | refine VC.region ?_ | refine VC.block ?_ | refine VC.label ?_ | refine VC.scope ?_ | refine VO.go (VO.nil ?_) | refine VO.go (VO.ld 0 rfl rfl rfl rfl ?_)))
      have hL : (xs ++ [x]).length = xs.length + 1 := by simp
      refine ⟨(i + 1, a2, c2, xs ++ [x]), ⟨hi2, by dsimp only; rw [hL]; exact hc2, ?_⟩, by dsimp only; omega, Sub.cons rfl (Sub.cons rfl (Sub.cons rfl (Sub.cons rfl (Sub.cons (by rw [hL]; rfl) (Sub.cons rfl (Sub.nil _)))))), ?_⟩
      · dsimp only; rw [htake, List.filter_append, ← hout]; simp [h2]
      · dsimp only
        rw [← triH_snoc]
        exact (Imp.app (L := [_]) (M := [_]) Imp.refl Imp.nil).ent
    · (repeat (first | refine VC.seq ?_ | refine VC.region ?_ | refine VC.block ?_ | refine VC.label ?_ | refine VC.scope ?_ | refine VO.go (VO.nil ?_) | refine VO.go (VO.ld 0 rfl rfl rfl rfl ?_)))
      refine VO.go (VO.add rfl rfl (by omega) (by omega) ?_)
      (repeat (first | refine VC.seq ?_ | refine VC.region ?_ | refine VC.block ?_ | refine VC.label ?_ | refine VC.scope ?_ | refine VO.go (VO.nil ?_) | refine VO.go (VO.ld 0 rfl rfl rfl rfl ?_)))
      refine ⟨(i + 1, a1, c1, xs), ⟨hi2, hroom, ?_⟩, by dsimp only; omega, Sub.cons rfl (Sub.cons rfl (Sub.cons rfl (Sub.cons rfl (Sub.cons rfl (Sub.cons rfl (Sub.nil _)))))), Ent.refl⟩
      dsimp only; rw [htake, List.filter_append, ← hout]; simp [h2]
  · have hi2 : i = l.length := by omega
    subst hi2
    rw [List.take_length] at hout
    refine VC.opn 0 rfl (HOpn.rl _ a1 c1 xs tCs_len) fun r ⟨hok, hv, hx⟩ => ?_
    (repeat (first | refine VC.seq ?_ | refine VC.region ?_ | refine VC.block ?_ | refine VC.label ?_ | refine VC.scope ?_ | refine VO.go (VO.nil ?_) | refine VO.go (VO.ld 0 rfl rfl rfl rfl ?_)))
    exact VC.ret (Ret.tmp 8 rfl rfl Ent.refl ⟨r, hok, hx.trans hout, hv.symm, rfl⟩)
end Go.Proofs.Ytoinocihlfmnnaa.Adm
