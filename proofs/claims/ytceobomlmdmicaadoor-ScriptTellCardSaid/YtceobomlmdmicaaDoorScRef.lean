/- Layer 24, the reference: digits, bytes and decimals. No condition. -/
import Derived.Test.YtceobomlmdmicaaDoorScE
import Derived.Laws.BytesArg
import Derived.Test.YtceobomlmdmicaaDoorScG
namespace Go.Proofs.YtceobomlmdmicaaDoor.Vg
open Go
section
variable {X : Cx} {e : Env}
/-- x[i:j] of a text that is fixed. -/
theorem light_subC {t : TypeId} {x y : Operand} {s : ByteArray} {tt : TI} {i j : Int} {k k' : IntKind} (hx : ev e x = some (.int k i)) (hy : ev e y = some (.int k' j)) (hT : tyLook X.tab t = some tt) (hu : tt.und = .string)
    (h0 : 0 ≤ i) (h1 : i ≤ j) (h2 : j ≤ s.size) : Light X (.slice t (.const (.string s)) (some x) (some y) none) e (.string (s.extract i.toNat j.toNat)) := by
  intro a ha dst ty pos after guard w
  have hund := und_string (X.ok.look hT) hu
  have h := run_slice_string (P := X.P) (w := w) t s k k' i j hund h0 h1 h2
  simp only [execOp, ha.ev hx, ha.ev hy, Option.map]
  rw [Sem.run_bind, run_sliceAt_string w t _ _ _ _ hund]
  show ((Instr.slice t (.string s) (some (.int k i)) (some (.int k' j)) none).run X.P w).andThen _ = _
  rw [h]; rfl
/-- x[i:j] of a text. -/
theorem light_subS {t : TypeId} {z x y : Operand} {s : ByteArray} {tt : TI} {i j : Int} {k k' : IntKind} (hz : ev e z = some (.string s)) (hx : ev e x = some (.int k i)) (hy : ev e y = some (.int k' j)) (hT : tyLook X.tab t = some tt) (hu : tt.und = .string)
    (h0 : 0 ≤ i) (h1 : i ≤ j) (h2 : j ≤ s.size) : Light X (.slice t z (some x) (some y) none) e (.string (s.extract i.toNat j.toNat)) := by
  intro a ha dst ty pos after guard w
  have hund := und_string (X.ok.look hT) hu
  have h := run_slice_string (P := X.P) (w := w) t s k k' i j hund h0 h1 h2
  simp only [execOp, ha.ev hz, ha.ev hx, ha.ev hy, Option.map]
  rw [Sem.run_bind, run_sliceAt_string w t _ _ _ _ hund]
  show ((Instr.slice t (.string s) (some (.int k i)) (some (.int k' j)) none).run X.P w).andThen _ = _
  rw [h]; rfl
theorem light_negI {t : TypeId} {x : Operand} {k : IntKind} {a : Int} (z : Int) (hx : ev e x = some (.int k a)) (hz : k.wrap (0 - a) = z) : Light X (.unOp .neg t x) e (.int k z) := by
  intro a' ha dst ty pos after guard w
  simp [execOp, ha.ev hx, Op.unary, Op.intArith, ← hz]
theorem light_remT {xt yt : TypeId} {x y : Operand} {k : IntKind} {a b : Int} (hx : ev e x = some (.int k a)) (hy : ev e y = some (.int k b)) (hb0 : 0 < b) : Light X (.binOp .rem xt x y yt) e (.int k (a.tmod b)) := by
  intro a' ha dst ty pos after guard w
  have hb : b ≠ 0 := by omega
  simp [execOp, ha.ev hx, ha.ev hy, eqGuard, binOp, Op.intDiv, hb]
theorem light_quoT {xt yt : TypeId} {x y : Operand} {k : IntKind} {a b : Int} (z : Int) (hx : ev e x = some (.int k a)) (hy : ev e y = some (.int k b)) (hb0 : 0 < b) (hz : k.wrap (a.tdiv b) = z) : Light X (.binOp .quo xt x y yt) e (.int k z) := by
  intro a' ha dst ty pos after guard w
  have hb : b ≠ 0 := by omega
  simp [execOp, ha.ev hx, ha.ev hy, eqGuard, binOp, Op.intDiv, hb, hz]
end
end Go.Proofs.YtceobomlmdmicaaDoor.Vg
namespace Go.Proofs.YtceobomlmdmicaaDoor.Scr
open Go Go.Proofs.YtceobomlmdmicaaDoor.Vg Go.Proofs.YtceobomlmdmicaaDoor.T Go.Proofs.YtceobomlmdmicaaDoor.Api Go.Proofs.YtceobomlmdmicaaDoor.LibC
set_option linter.unusedSimpArgs false
set_option linter.unusedVariables false
attribute [local irreducible] VO VC VA

theorem dig_sub {n : Nat} (h : n < 16) : digs.extract n (n + 1) = toB [dig n] := by
  have : ∀ n : Fin 16, digs.extract n.val (n.val + 1) = toB [dig n.val] := by decide +kernel
  exact this ⟨n, h⟩
theorem digit_spec (Fr : Nat → Prop) (w : World) {n : Nat} (h : n < 16) : Tri Tryd.prog 38 [.int .i64 n] Fr w [] (fun v L => v = .string (toB [dig n]) ∧ L = []) := by
  refine Tri.of 7 Tryd.func38 rfl (by kernel_rfl) tabOk rfl rfl ?_
  (repeat (first | refine VC.seq ?_ | refine VC.region ?_ | refine VC.block ?_ | refine VC.label ?_ | refine VC.scope ?_ | refine VO.go (VO.nil ?_) | refine VO.go (VO.ld 0 rfl rfl rfl rfl ?_)))
  refine VO.go (VO.add rfl rfl (by omega) (by omega) ?_)
  (repeat (first | refine VC.seq ?_ | refine VC.region ?_ | refine VC.block ?_ | refine VC.label ?_ | refine VC.scope ?_ | refine VO.go (VO.nil ?_) | refine VO.go (VO.ld 0 rfl rfl rfl rfl ?_)))
  refine VO.go (VO.light (light_subC (s := digs) rfl rfl rfl rfl (by omega) (by omega) (by show _ ≤ (16 : Int); omega)) ?_)
  rw [show digs.extract ((n : Nat) : Int).toNat (((n : Nat) : Int) + 1).toNat = toB [dig n] by
    rw [show ((n : Nat) : Int).toNat = n from rfl, show (((n : Nat) : Int) + 1).toNat = n + 1 by omega]; exact dig_sub h]
  (repeat (first | refine VC.seq ?_ | refine VC.region ?_ | refine VC.block ?_ | refine VC.label ?_ | refine VC.scope ?_ | refine VO.go (VO.nil ?_) | refine VO.go (VO.ld 0 rfl rfl rfl rfl ?_)))
  exact VC.ret (Ret.tmp 2 rfl rfl Ent.refl ⟨rfl, rfl⟩)

set_option maxRecDepth 100000 in
set_option maxHeartbeats 1000000 in
theorem rbytes_spec (Fr : Nat → Prop) (w : World) (s : ByteArray) (hs : s.size ≤ 1000000) : Tri Tryd.prog 27 [.string s] Fr w [] (fun v L => v = .string (encT s) ∧ L = []) := by
  refine Tri.of 27 Tryd.func27 rfl (by kernel_rfl) tabOk rfl rfl ?_
  (repeat (first | refine VC.seq ?_ | refine VC.region ?_ | refine VC.block ?_ | refine VC.label ?_ | refine VC.scope ?_ | refine VO.go (VO.nil ?_) | refine VO.go (VO.ld 0 rfl rfl rfl rfl ?_)))
  refine VC.loop (σ := Nat) (fun i => [(0, .string s), (3, .string (toB (58 :: encB (s.data.toList.take i)))), (4, .int .i64 i)]) (fun i => []) (fun i => i ≤ s.size) (fun i => s.size - i) 0
    (Nat.zero_le _) (Sub.cons rfl (Sub.cons rfl (Sub.cons rfl (Sub.nil _)))) Ent.refl ?_
  intro i hi
  (repeat (first | refine VC.seq ?_ | refine VC.region ?_ | refine VC.block ?_ | refine VC.label ?_ | refine VC.scope ?_ | refine VO.go (VO.nil ?_) | refine VO.go (VO.ld 0 rfl rfl rfl rfl ?_)))
  refine VC.condP rfl (fun h1 => VC.skip ?_) (fun h1 => VC.exit ?_)
  · have hi2 : i < s.size := by omega
    obtain ⟨c, hc⟩ := byte_at hi2
    have hc256 : c.toNat < 256 := c.toNat_lt
    have hsz : (toB (58 :: encB (s.data.toList.take i))).size = 2 * i + 1 := by
      rw [toB_size, List.length_cons, encB_len, List.length_take, data_len]; omega
    refine VC.seq (VC.block (VC.draw (ts 0 6 (ts 8 5 (.only 6 (.take 7 (.only 13 (ts 14 2 .nil)))))) (by kernel_rfl) (by decide +kernel) ?_))
    (repeat (first | refine VA.go (VA.nil ?_) | refine VA.go (VA.ld 0 rfl rfl rfl rfl rfl ?_) | refine VA.go (VA.offU rfl rfl rfl rfl ?_)))
    refine VA.go (VA.light rfl (light_strAt i rfl rfl rfl rfl rfl hc) ?_)
    refine VA.go (VA.light rfl (light_conv (c.toNat : Int) rfl rfl rfl rfl rfl (i64_in _ (by omega) (by omega))) ?_)
    refine VA.go (VA.light rfl (light_quo ((c.toNat / 16 : Nat) : Int) rfl rfl (by omega) (by decide) (by rw [i64_in _ (by omega) (by omega)]; omega)) ?_)
    (repeat (first | refine VA.go (VA.nil ?_) | refine VA.go (VA.ld 0 rfl rfl rfl rfl rfl ?_) | refine VA.go (VA.offU rfl rfl rfl rfl ?_)))
    refine VA.go (VA.light rfl (light_strAt i rfl rfl rfl rfl rfl hc) ?_)
    refine VA.go (VA.light rfl (light_conv (c.toNat : Int) rfl rfl rfl rfl rfl (i64_in _ (by omega) (by omega))) ?_)
    refine VA.go (VA.light rfl (light_rem rfl rfl (by omega) (by decide)) ?_)
    rw [show ((c.toNat : Nat) : Int) % 16 = ((c.toNat % 16 : Nat) : Int) by omega]
    refine VA.go (VA.callR (fun Fr w hF hs hS => digit_spec Fr w (n := c.toNat / 16) (by omega)) rfl rfl (by (try refine Pd.st ?_); (repeat (first | exact Pd.nil | exact Pd.fnil | refine Pd.inner ?_ | refine Pd.skip (by decide +kernel) ?_))) ?_)
    (repeat (first | refine VA.go (VA.nil ?_) | refine VA.go (VA.ld 0 rfl rfl rfl rfl rfl ?_) | refine VA.go (VA.offU rfl rfl rfl rfl ?_)))
    refine VA.go (VA.light rfl (light_cat rfl rfl (by rw [hsz, toB_size]; show _ + 1 ≤ _; omega)) ?_)
    refine VA.go (VA.callR (fun Fr w hF hs hS => digit_spec Fr w (n := c.toNat % 16) (by omega)) rfl rfl (by (try refine Pd.st ?_); (repeat (first | exact Pd.nil | exact Pd.fnil | refine Pd.inner ?_ | refine Pd.skip (by decide +kernel) ?_))) ?_)
    (repeat (first | refine VA.go (VA.nil ?_) | refine VA.go (VA.ld 0 rfl rfl rfl rfl rfl ?_) | refine VA.go (VA.offU rfl rfl rfl rfl ?_)))
    refine VA.go (VA.light rfl (light_cat rfl rfl (by rw [ByteArray.size_append, hsz, toB_size, toB_size]; show _ + 1 + 1 ≤ _; omega)) ?_)
    (repeat (first | refine VA.go (VA.nil ?_) | refine VA.go (VA.ld 0 rfl rfl rfl rfl rfl ?_) | refine VA.go (VA.offU rfl rfl rfl rfl ?_)))
    (repeat (first | refine VC.seq ?_ | refine VC.region ?_ | refine VC.block ?_ | refine VC.label ?_ | refine VC.scope ?_ | refine VO.go (VO.nil ?_) | refine VO.go (VO.ld 0 rfl rfl rfl rfl ?_)))
    refine VO.go (VO.add rfl rfl (by omega) (by omega) ?_)
    (repeat (first | refine VC.seq ?_ | refine VC.region ?_ | refine VC.block ?_ | refine VC.label ?_ | refine VC.scope ?_ | refine VO.go (VO.nil ?_) | refine VO.go (VO.ld 0 rfl rfl rfl rfl ?_)))
    have e : toB (58 :: encB (s.data.toList.take i)) ++ toB [dig (c.toNat / 16)] ++ toB [dig (c.toNat % 16)] = toB (58 :: encB (s.data.toList.take (i + 1))) := by
      rw [List.take_add_one, hc, show (some c).toList = [c] from rfl, encB_snoc, toB_cat, toB_cat]; simp
    exact ⟨i + 1, hi2, by dsimp only; omega, Sub.cons rfl (Sub.cons (by rw [← e]; rfl) (Sub.cons rfl (Sub.nil _))), Ent.refl⟩
  · obtain rfl : i = s.size := by omega
    rw [List.take_of_length_le (by rw [data_len]; omega)]
    (repeat (first | refine VC.seq ?_ | refine VC.region ?_ | refine VC.block ?_ | refine VC.label ?_ | refine VC.scope ?_ | refine VO.go (VO.nil ?_) | refine VO.go (VO.ld 0 rfl rfl rfl rfl ?_)))
    exact VC.ret (Ret.tmp 2 rfl rfl Ent.refl ⟨rfl, rfl⟩)

theorem dig_num : ∀ n, n < 10 → dig n = UInt8.ofNat (48 + n) := by decide +kernel
theorem num_small {n : Nat} (h : n < 10) : numT (n : Int) = toB [dig n] := by
  unfold numT Lib.itoa
  rw [if_neg (by omega), show ((n : Nat) : Int).toNat = n from rfl, Lib.decDigits, dif_pos h, dig_num n h]; rfl
theorem num_smallN {n : Nat} (h : n < 10) (h0 : 0 < n) : numT (-(n : Int)) = toB [45, dig n] := by
  unfold numT Lib.itoa
  rw [if_pos (by omega), show (-(n : Int)).natAbs = n by omega, Lib.decDigits, dif_pos h, dig_num n h]; rfl
theorem num_step {n : Int} (h : 10 ≤ n.natAbs) : numT n = numT (n.tdiv 10) ++ toB [dig (n.natAbs % 10)] := by
  have h10 : (n.tdiv 10).natAbs = n.natAbs / 10 := by rw [Int.natAbs_tdiv]; rfl
  have e1 := Int.mul_tdiv_add_tmod n 10
  have e2 : (n.tmod 10).natAbs = n.natAbs % 10 := Int.natAbs_tmod ..
  have hd : Lib.decDigits n.natAbs = Lib.decDigits (n.natAbs / 10) ++ [dig (n.natAbs % 10)] := by
    rw [Lib.decDigits, dif_neg (by omega), dig_num _ (by omega)]
  unfold numT Lib.itoa
  by_cases hn : n < 0
  · have hq : n.tdiv 10 < 0 := by omega
    rw [if_pos hn, if_pos hq, hd, h10]
    show toB _ = toB _ ++ toB _
    rw [toB_cat]; rfl
  · have hq : ¬ n.tdiv 10 < 0 := by omega
    rw [if_neg hn, if_neg hq, show n.toNat = n.natAbs by omega, show (n.tdiv 10).toNat = (n.tdiv 10).natAbs by omega, hd, h10]
    show toB _ = toB _ ++ toB _
    rw [toB_cat]
theorem numT_len {n : Int} (h : isI n) : (numT n).size ≤ 21 := by
  have := numL_len h
  have e : (numT n).size = (Lib.itoa n).length := by rw [numT_toB, toB_size]
  simp only [numL, List.length_cons] at this
  omega

set_option maxRecDepth 100000 in
theorem decimal_spec : ∀ (m : Nat) (n : Int), n.natAbs = m → isI n → ∀ (Fr : Nat → Prop) (w : World), Tri Tryd.prog 26 [.int .i64 n] Fr w [] (fun v L => v = .string (numT n) ∧ L = []) := by
  intro m
  induction m using Nat.strongRecOn with
  | _ m ih =>
    intro n hm hI Fr w
    obtain ⟨i1, i2⟩ := hI
    refine Tri.of 33 Tryd.func26 rfl (by kernel_rfl) tabOk rfl rfl ?_
    (repeat (first | refine VC.seq ?_ | refine VC.region ?_ | refine VC.block ?_ | refine VC.label ?_ | refine VC.scope ?_ | refine VO.go (VO.nil ?_) | refine VO.go (VO.ld 0 rfl rfl rfl rfl ?_)))
    have e1 := Int.mul_tdiv_add_tmod n 10
    have e2 : (n.tmod 10).natAbs = n.natAbs % 10 := Int.natAbs_tmod ..
    have e3 : (n.tdiv 10).natAbs = n.natAbs / 10 := Int.natAbs_tdiv ..
    have e4 : (if n.tmod 10 < -n.tmod 10 then -n.tmod 10 else n.tmod 10) = ((n.natAbs % 10 : Nat) : Int) := by split <;> omega
    rcases (show (n < 0 ∧ -10 < n) ∨ (0 ≤ n ∧ n < 10) ∨ n ≤ -10 ∨ 10 ≤ n by omega) with hs | hs | hs | hs
    · refine VO.go (VO.yes 6 true rfl (decide_eq_true hs.1) ?_)
      (repeat (first | refine VC.seq ?_ | refine VC.region ?_ | refine VC.block ?_ | refine VC.label ?_ | refine VC.scope ?_ | refine VO.go (VO.nil ?_) | refine VO.go (VO.ld 0 rfl rfl rfl rfl ?_) | refine VO.go (VO.offU rfl rfl rfl ?_)))
      refine VC.condP rfl (fun h1 => ?_) (fun h1 => by omega)
      (repeat (first | refine VC.seq ?_ | refine VC.region ?_ | refine VC.block ?_ | refine VC.label ?_ | refine VC.scope ?_ | refine VO.go (VO.nil ?_) | refine VO.go (VO.ld 0 rfl rfl rfl rfl ?_)))
      refine VO.go (VO.light (light_negI ((n.natAbs : Nat) : Int) rfl (by rw [i64_in _ (by omega) (by omega)]; omega)) ?_)
      refine VO.go (VO.callV' (fun Fr w hF hw _ => digit_spec Fr w (n := n.natAbs) (by omega)) rfl ?_)
      (repeat (first | refine VC.seq ?_ | refine VC.region ?_ | refine VC.block ?_ | refine VC.label ?_ | refine VC.scope ?_ | refine VO.go (VO.nil ?_) | refine VO.go (VO.ld 0 rfl rfl rfl rfl ?_)))
      refine VO.go (VO.light (light_cat rfl rfl (by rw [toB_size]; show (1 : Nat) + 1 ≤ _; decide)) ?_)
      (repeat (first | refine VC.seq ?_ | refine VC.region ?_ | refine VC.block ?_ | refine VC.label ?_ | refine VC.scope ?_ | refine VO.go (VO.nil ?_) | refine VO.go (VO.ld 0 rfl rfl rfl rfl ?_)))
      exact VC.ret (Ret.tmp 2 rfl rfl Ent.refl ⟨by
        have := num_smallN (n := n.natAbs) (by omega) (by omega)
        rw [show -((n.natAbs : Nat) : Int) = n by omega] at this
        rw [this]; rfl, rfl⟩)
    · obtain ⟨k, rfl⟩ : ∃ k : Nat, n = k := ⟨n.toNat, by omega⟩
      refine VO.go (VO.yes 6 false rfl (decide_eq_false (by omega)) ?_)
      (repeat (first | refine VC.seq ?_ | refine VC.region ?_ | refine VC.block ?_ | refine VC.label ?_ | refine VC.scope ?_ | refine VO.go (VO.nil ?_) | refine VO.go (VO.ld 0 rfl rfl rfl rfl ?_) | refine VO.go (VO.offU rfl rfl rfl ?_)))
      refine VC.condF rfl (VC.skip ?_)
      (repeat (first | refine VC.seq ?_ | refine VC.region ?_ | refine VC.block ?_ | refine VC.label ?_ | refine VC.scope ?_ | refine VO.go (VO.nil ?_) | refine VO.go (VO.ld 0 rfl rfl rfl rfl ?_)))
      refine VO.go (VO.yes 16 true rfl (decide_eq_true (by omega)) ?_)
      (repeat (first | refine VC.seq ?_ | refine VC.region ?_ | refine VC.block ?_ | refine VC.label ?_ | refine VC.scope ?_ | refine VO.go (VO.nil ?_) | refine VO.go (VO.ld 0 rfl rfl rfl rfl ?_) | refine VO.go (VO.offU rfl rfl rfl ?_)))
      refine VC.condP rfl (fun h1 => ?_) (fun h1 => by omega)
      (repeat (first | refine VC.seq ?_ | refine VC.region ?_ | refine VC.block ?_ | refine VC.label ?_ | refine VC.scope ?_ | refine VO.go (VO.nil ?_) | refine VO.go (VO.ld 0 rfl rfl rfl rfl ?_)))
      refine VO.go (VO.callV' (fun Fr w hF hw _ => digit_spec Fr w (n := k) (by omega)) rfl ?_)
      (repeat (first | refine VC.seq ?_ | refine VC.region ?_ | refine VC.block ?_ | refine VC.label ?_ | refine VC.scope ?_ | refine VO.go (VO.nil ?_) | refine VO.go (VO.ld 0 rfl rfl rfl rfl ?_)))
      exact VC.ret (Ret.tmp 2 rfl rfl Ent.refl ⟨by rw [num_small (by omega)], rfl⟩)
    · refine VO.go (VO.yes 6 true rfl (decide_eq_true (by omega)) ?_)
      (repeat (first | refine VC.seq ?_ | refine VC.region ?_ | refine VC.block ?_ | refine VC.label ?_ | refine VC.scope ?_ | refine VO.go (VO.nil ?_) | refine VO.go (VO.ld 0 rfl rfl rfl rfl ?_) | refine VO.go (VO.offU rfl rfl rfl ?_)))
      refine VC.condP rfl (fun h1 => by omega) (fun h1 => VC.skip ?_)
      (repeat (first | refine VC.seq ?_ | refine VC.region ?_ | refine VC.block ?_ | refine VC.label ?_ | refine VC.scope ?_ | refine VO.go (VO.nil ?_) | refine VO.go (VO.ld 0 rfl rfl rfl rfl ?_)))
      refine VO.go (VO.yes 16 false rfl (decide_eq_false (by omega)) ?_)
      (repeat (first | refine VC.seq ?_ | refine VC.region ?_ | refine VC.block ?_ | refine VC.label ?_ | refine VC.scope ?_ | refine VO.go (VO.nil ?_) | refine VO.go (VO.ld 0 rfl rfl rfl rfl ?_) | refine VO.go (VO.offU rfl rfl rfl ?_)))
      refine VC.condF rfl (VC.skip ?_)
      (repeat (first | refine VC.seq ?_ | refine VC.region ?_ | refine VC.block ?_ | refine VC.label ?_ | refine VC.scope ?_ | refine VO.go (VO.nil ?_) | refine VO.go (VO.ld 0 rfl rfl rfl rfl ?_)))
      refine VO.go (VO.light (light_remT rfl rfl (by decide)) ?_)
      (repeat (first | refine VC.seq ?_ | refine VC.region ?_ | refine VC.block ?_ | refine VC.label ?_ | refine VC.scope ?_ | refine VO.go (VO.nil ?_) | refine VO.go (VO.ld 0 rfl rfl rfl rfl ?_)))
      refine VO.go (VO.light (light_quoT (n.tdiv 10) rfl rfl (by decide) (i64_in _ (by omega) (by omega))) ?_)
      refine VO.go (VO.callV (fun Fr w => ih (n.tdiv 10).natAbs (by omega) (n.tdiv 10) rfl ⟨by omega, by omega⟩ Fr w) rfl ?_)
      (repeat (first | refine VC.seq ?_ | refine VC.region ?_ | refine VC.block ?_ | refine VC.label ?_ | refine VC.scope ?_ | refine VO.go (VO.nil ?_) | refine VO.go (VO.ld 0 rfl rfl rfl rfl ?_)))
      refine VO.go (VO.light (light_negI (-n.tmod 10) rfl (by rw [i64_in _ (by omega) (by omega)]; omega)) ?_)
      refine VO.go (VO.callV' (fun Fr w hF hw _ => digit_spec Fr w (n := n.natAbs % 10) (by omega)) (by show some [Value.int .i64 (if n.tmod 10 < -n.tmod 10 then -n.tmod 10 else n.tmod 10)] = _; rw [e4]) ?_)
      (repeat (first | refine VC.seq ?_ | refine VC.region ?_ | refine VC.block ?_ | refine VC.label ?_ | refine VC.scope ?_ | refine VO.go (VO.nil ?_) | refine VO.go (VO.ld 0 rfl rfl rfl rfl ?_)))
      have hz := numT_len (n := n.tdiv 10) ⟨by omega, by omega⟩
      refine VO.go (VO.light (light_cat rfl rfl (by rw [toB_size]; show _ + 1 ≤ _; omega)) ?_)
      (repeat (first | refine VC.seq ?_ | refine VC.region ?_ | refine VC.block ?_ | refine VC.label ?_ | refine VC.scope ?_ | refine VO.go (VO.nil ?_) | refine VO.go (VO.ld 0 rfl rfl rfl rfl ?_)))
      exact VC.ret (Ret.tmp 2 rfl rfl Ent.refl ⟨by rw [num_step (n := n) (by omega)], rfl⟩)
    · refine VO.go (VO.yes 6 false rfl (decide_eq_false (by omega)) ?_)
      (repeat (first | refine VC.seq ?_ | refine VC.region ?_ | refine VC.block ?_ | refine VC.label ?_ | refine VC.scope ?_ | refine VO.go (VO.nil ?_) | refine VO.go (VO.ld 0 rfl rfl rfl rfl ?_) | refine VO.go (VO.offU rfl rfl rfl ?_)))
      refine VC.condF rfl (VC.skip ?_)
      (repeat (first | refine VC.seq ?_ | refine VC.region ?_ | refine VC.block ?_ | refine VC.label ?_ | refine VC.scope ?_ | refine VO.go (VO.nil ?_) | refine VO.go (VO.ld 0 rfl rfl rfl rfl ?_)))
      refine VO.go (VO.yes 16 true rfl (decide_eq_true (by omega)) ?_)
      (repeat (first | refine VC.seq ?_ | refine VC.region ?_ | refine VC.block ?_ | refine VC.label ?_ | refine VC.scope ?_ | refine VO.go (VO.nil ?_) | refine VO.go (VO.ld 0 rfl rfl rfl rfl ?_) | refine VO.go (VO.offU rfl rfl rfl ?_)))
      refine VC.condP rfl (fun h1 => by omega) (fun h1 => VC.skip ?_)
      (repeat (first | refine VC.seq ?_ | refine VC.region ?_ | refine VC.block ?_ | refine VC.label ?_ | refine VC.scope ?_ | refine VO.go (VO.nil ?_) | refine VO.go (VO.ld 0 rfl rfl rfl rfl ?_)))
      refine VO.go (VO.light (light_remT rfl rfl (by decide)) ?_)
      (repeat (first | refine VC.seq ?_ | refine VC.region ?_ | refine VC.block ?_ | refine VC.label ?_ | refine VC.scope ?_ | refine VO.go (VO.nil ?_) | refine VO.go (VO.ld 0 rfl rfl rfl rfl ?_)))
      refine VO.go (VO.light (light_quoT (n.tdiv 10) rfl rfl (by decide) (i64_in _ (by omega) (by omega))) ?_)
      refine VO.go (VO.callV (fun Fr w => ih (n.tdiv 10).natAbs (by omega) (n.tdiv 10) rfl ⟨by omega, by omega⟩ Fr w) rfl ?_)
      (repeat (first | refine VC.seq ?_ | refine VC.region ?_ | refine VC.block ?_ | refine VC.label ?_ | refine VC.scope ?_ | refine VO.go (VO.nil ?_) | refine VO.go (VO.ld 0 rfl rfl rfl rfl ?_)))
      refine VO.go (VO.light (light_negI (-n.tmod 10) rfl (by rw [i64_in _ (by omega) (by omega)]; omega)) ?_)
      refine VO.go (VO.callV' (fun Fr w hF hw _ => digit_spec Fr w (n := n.natAbs % 10) (by omega)) (by show some [Value.int .i64 (if n.tmod 10 < -n.tmod 10 then -n.tmod 10 else n.tmod 10)] = _; rw [e4]) ?_)
      (repeat (first | refine VC.seq ?_ | refine VC.region ?_ | refine VC.block ?_ | refine VC.label ?_ | refine VC.scope ?_ | refine VO.go (VO.nil ?_) | refine VO.go (VO.ld 0 rfl rfl rfl rfl ?_)))
      have hz := numT_len (n := n.tdiv 10) ⟨by omega, by omega⟩
      refine VO.go (VO.light (light_cat rfl rfl (by rw [toB_size]; show _ + 1 ≤ _; omega)) ?_)
      (repeat (first | refine VC.seq ?_ | refine VC.region ?_ | refine VC.block ?_ | refine VC.label ?_ | refine VC.scope ?_ | refine VO.go (VO.nil ?_) | refine VO.go (VO.ld 0 rfl rfl rfl rfl ?_)))
      exact VC.ret (Ret.tmp 2 rfl rfl Ent.refl ⟨by rw [num_step (n := n) (by omega)], rfl⟩)
end Go.Proofs.YtceobomlmdmicaaDoor.Scr
namespace Go.Proofs.YtceobomlmdmicaaDoor.Scr
open Go Go.Proofs.YtceobomlmdmicaaDoor.Vg Go.Proofs.YtceobomlmdmicaaDoor.T Go.Proofs.YtceobomlmdmicaaDoor.Api Go.Proofs.YtceobomlmdmicaaDoor.LibC
set_option linter.unusedSimpArgs false
set_option linter.unusedVariables false
attribute [local irreducible] VO VC VA

def numsT : List Nat := [0, 5, 1, 0, 3, 3, 3, 1, 1, 1, 1, 0]
def numK (k : Nat) : Nat := numsT.getD k 0
def wordCs : List Value := (List.range 11).map fun i => .string (toB (wordK (i + 1)))
def numCs : List Value := (List.range 11).map fun i => .int .i64 (numK (i + 1))
theorem wordCs_at {j : Nat} (h : j < 11) : wordCs[0 + j * 1]? = some (.string (toB (wordK (j + 1)))) := by
  rw [Nat.zero_add, Nat.mul_one, wordCs, List.getElem?_map, List.getElem?_range h]; rfl
theorem numCs_at {j : Nat} (h : j < 11) : numCs[0 + j * 1]? = some (.int .i64 (numK (j + 1))) := by
  rw [Nat.zero_add, Nat.mul_one, numCs, List.getElem?_map, List.getElem?_range h]; rfl
def wordV (k : Int) : Value := if isK k then .tuple #[.string (toB (wordK k.toNat)), .int .i64 (numK k.toNat)] else .tuple #[.string (toB []), .int .i64 (-1)]

set_option maxRecDepth 100000 in
set_option maxHeartbeats 1000000 in
theorem rword_spec (Fr : Nat → Prop) (w : World) (k : Int) : Tri Tryd.prog 25 [.int .i64 k] Fr w [] (fun v L => v = wordV k ∧ L = []) := by
  refine Tri.of 22 Tryd.func25 rfl (by kernel_rfl) tabOk rfl rfl ?_
  (repeat (first | refine VC.seq ?_ | refine VC.region ?_ | refine VC.block ?_ | refine VC.label ?_ | refine VC.scope ?_ | refine VO.go (VO.nil ?_) | refine VO.go (VO.ld 0 rfl rfl rfl rfl ?_)))
  refine VO.go (VO.light (light_buildArr (pv := [(0, .string ⟨#[99, 97, 108, 108]⟩), (1, .string ⟨#[115, 116, 101, 112]⟩), (2, .string ⟨#[116, 105, 99, 107]⟩), (3, .string ⟨#[100, 101, 108, 105, 118, 101, 114]⟩), (4, .string ⟨#[100, 114, 111, 112]⟩), (5, .string ⟨#[100, 111, 117, 98, 108, 101]⟩), (6, .string ⟨#[99, 114, 97, 115, 104]⟩), (7, .string ⟨#[115, 117, 115, 112, 101, 99, 116]⟩), (8, .string ⟨#[106, 111, 105, 110]⟩), (9, .string ⟨#[100, 114, 97, 105, 110]⟩), (10, .string ⟨#[119, 97, 116, 99, 104]⟩)]) wordCs rfl rfl rfl rfl (by kernel_rfl)) ?_)
  refine VO.go (VO.alloc rfl fun wb => ?_)
  refine VO.go (VO.stA (vs := wordCs) 0 rfl rfl rfl rfl (Nat.le_refl _) rfl rfl rfl ?_)
  (repeat (first | refine VC.seq ?_ | refine VC.region ?_ | refine VC.block ?_ | refine VC.label ?_ | refine VC.scope ?_ | refine VO.go (VO.nil ?_) | refine VO.go (VO.ld 0 rfl rfl rfl rfl ?_)))
  refine VO.go (VO.light (light_buildArr (pv := [(0, .int .i64 5), (1, .int .i64 1), (2, .int .i64 0), (3, .int .i64 3), (4, .int .i64 3), (5, .int .i64 3), (6, .int .i64 1), (7, .int .i64 1), (8, .int .i64 1), (9, .int .i64 1), (10, .int .i64 0)]) numCs rfl rfl rfl rfl (by kernel_rfl)) ?_)
  refine VO.go (VO.alloc rfl fun nb => ?_)
  refine VO.go (VO.stA (vs := numCs) 0 rfl rfl rfl rfl (Nat.le_refl _) rfl rfl rfl ?_)
  (repeat (first | refine VC.seq ?_ | refine VC.region ?_ | refine VC.block ?_ | refine VC.label ?_ | refine VC.scope ?_ | refine VO.go (VO.nil ?_) | refine VO.go (VO.ld 0 rfl rfl rfl rfl ?_)))
  by_cases h1 : k < 1
  · have hk : isK k = false := by simp [isK]; omega
    refine VO.go (VO.yes 10 true rfl (decide_eq_true h1) ?_)
    (repeat (first | refine VC.seq ?_ | refine VC.region ?_ | refine VC.block ?_ | refine VC.label ?_ | refine VC.scope ?_ | refine VO.go (VO.nil ?_) | refine VO.go (VO.ld 0 rfl rfl rfl rfl ?_) | refine VO.go (VO.offU rfl rfl rfl ?_)))
    refine VC.condT rfl ?_
    (repeat (first | refine VC.seq ?_ | refine VC.region ?_ | refine VC.block ?_ | refine VC.label ?_ | refine VC.scope ?_ | refine VO.go (VO.nil ?_) | refine VO.go (VO.ld 0 rfl rfl rfl rfl ?_)))
    exact VC.ret (Ret.tmp2 2 3 rfl rfl rfl Imp.nil.ent ⟨by rw [wordV, hk]; rfl, rfl⟩)
  · refine VO.go (VO.yes 10 false rfl (decide_eq_false h1) ?_)
    (repeat (first | refine VC.seq ?_ | refine VC.region ?_ | refine VC.block ?_ | refine VC.label ?_ | refine VC.scope ?_ | refine VO.go (VO.nil ?_) | refine VO.go (VO.ld 0 rfl rfl rfl rfl ?_) | refine VO.go (VO.offU rfl rfl rfl ?_)))
    refine VC.condP rfl (fun h2 => ?_) (fun h2 => VC.skip ?_)
    · have hk : isK k = false := by simp [isK]; omega
      (repeat (first | refine VC.seq ?_ | refine VC.region ?_ | refine VC.block ?_ | refine VC.label ?_ | refine VC.scope ?_ | refine VO.go (VO.nil ?_) | refine VO.go (VO.ld 0 rfl rfl rfl rfl ?_)))
      exact VC.ret (Ret.tmp2 2 3 rfl rfl rfl Imp.nil.ent ⟨by rw [wordV, hk]; rfl, rfl⟩)
    · have hk : isK k = true := by simp [isK]; omega
      obtain ⟨n, rfl, hn1, hn2⟩ := isK_nat hk
      obtain ⟨m, rfl⟩ : ∃ m, n = m + 1 := ⟨n - 1, by omega⟩
      refine VC.seq (VC.draw (ts 0 10 .nil) (by kernel_rfl) (by decide +kernel) ?_)
      (repeat (first | refine VA.go (VA.nil ?_) | refine VA.go (VA.ld 0 rfl rfl rfl rfl rfl ?_) | refine VA.go (VA.offU rfl rfl rfl rfl ?_)))
      refine VA.go (VA.sub' rfl rfl rfl (by omega) (by omega) ?_)
      refine VA.go (VA.light rfl (light_idxA m rfl rfl rfl rfl rfl (by omega) (by omega)) ?_)
      refine VA.go (VA.load rfl rfl rfl (RdL.one 1 rfl (wordCs_at (by omega))) ?_)
      (repeat (first | refine VA.go (VA.nil ?_) | refine VA.go (VA.ld 0 rfl rfl rfl rfl rfl ?_) | refine VA.go (VA.offU rfl rfl rfl rfl ?_)))
      refine VA.go (VA.sub' rfl rfl rfl (by omega) (by omega) ?_)
      refine VA.go (VA.light rfl (light_idxA m rfl rfl rfl rfl rfl (by omega) (by omega)) ?_)
      refine VA.go (VA.load rfl rfl rfl (RdL.one 0 rfl (numCs_at (by omega))) ?_)
      (repeat (first | refine VA.go (VA.nil ?_) | refine VA.go (VA.ld 0 rfl rfl rfl rfl rfl ?_) | refine VA.go (VA.offU rfl rfl rfl rfl ?_)))
      exact VC.ret (Ret.tmp2 2 3 rfl rfl rfl Imp.nil.ent ⟨by rw [wordV, hk]; rfl, rfl⟩)

/-! ### A step's line -/
def numsD (d : DoM) : List Int := [d.a, d.b, d.c, d.op.kind, d.op.version]
def intC (n : Int) : Value := .int .i64 n
theorem numK_uses : ∀ k, k < 12 → (usesK k = [97, 98, 99, 111] ∧ numK k = 5) ∨ (usesK k = [97, 98, 99] ∧ numK k = 3) ∨ (usesK k = [97] ∧ numK k = 1) ∨ (usesK k = [] ∧ numK k = 0) := by decide +kernel
theorem rest_nums {d : DoM} {k : Nat} (hk : d.kind.toNat = k) (h : k < 12) : restL d = ((numsD d).take (numK k)).flatMap numL ++ (if numK k = 5 then 32 :: (encT d.op.key).data.toList ++ 32 :: (encT d.op.value).data.toList else []) := by
  unfold restL
  rw [hk]
  rcases numK_uses k h with ⟨e1, e2⟩ | ⟨e1, e2⟩ | ⟨e1, e2⟩ | ⟨e1, e2⟩ <;> rw [e1, e2] <;> simp [numsD, useT, enc_data]
theorem numK_le : ∀ k, k < 12 → numK k ≤ 5 := by decide +kernel
theorem nums_isI {d : DoM} (h : d.Ok) : ∀ n ∈ numsD d, isI n := by
  intro n hn
  simp only [numsD, List.mem_cons, List.not_mem_nil, or_false] at hn
  rcases hn with rfl | rfl | rfl | rfl | rfl
  · exact h.a
  · exact h.b
  · exact h.c
  · exact h.opk
  · exact h.opv
theorem nums_len {l : List Int} (h : ∀ n ∈ l, isI n) : (l.flatMap numL).length ≤ 22 * l.length := flatMap_len fun n hn => numL_len (h n hn)

set_option maxRecDepth 100000 in
set_option maxHeartbeats 2000000 in
theorem line_spec (Fr : Nat → Prop) (w : World) {d : DoM} (h : d.Ok) : Tri Tryd.prog 16 [.agg (doC d).toArray] Fr w [] (fun v L => v = .string (toB (lineL d)) ∧ L = []) := by
  refine Tri.of 57 Tryd.func16 rfl (by kernel_rfl) tabOk rfl rfl ?_
  refine VC.seq (VC.region (VO.go (VO.boxA (vs := doC d) rfl fun db => ?_)))
  (repeat (first | refine VC.seq ?_ | refine VC.region ?_ | refine VC.block ?_ | refine VC.label ?_ | refine VC.scope ?_ | refine VO.go (VO.nil ?_) | refine VO.go (VO.ld 0 rfl rfl rfl rfl ?_)))
  refine VO.go (VO.callV' (fun Fr w hF hw _ => rword_spec Fr w d.kind) rfl ?_)
  cases hk : isK d.kind with
  | false =>
    rw [show wordV d.kind = .tuple #[.string (toB []), .int .i64 (-1)] by rw [wordV, hk]; rfl]
    (repeat (first | refine VC.seq ?_ | refine VC.region ?_ | refine VC.block ?_ | refine VC.label ?_ | refine VC.scope ?_ | refine VO.go (VO.nil ?_) | refine VO.go (VO.ld 0 rfl rfl rfl rfl ?_)))
    refine VC.condT rfl ?_
    (repeat (first | refine VC.seq ?_ | refine VC.region ?_ | refine VC.block ?_ | refine VC.label ?_ | refine VC.scope ?_ | refine VO.go (VO.nil ?_) | refine VO.go (VO.ld 0 rfl rfl rfl rfl ?_)))
    exact VC.ret (Ret.tmp 2 rfl rfl Imp.nil.ent ⟨by rw [lineL, hk]; rfl, rfl⟩)
  | true =>
    obtain ⟨k, hk0, hk1, hk2⟩ := isK_nat hk
    have hkn : d.kind.toNat = k := by rw [hk0]; rfl
    have hw7 := (word_len k (by omega)).1
    have hn5 := numK_le k (by omega)
    have hnI := nums_isI h
    have hll : lineL d = wordK k ++ (((numsD d).take (numK k)).flatMap numL ++ (if numK k = 5 then 32 :: (encT d.op.key).data.toList ++ 32 :: (encT d.op.value).data.toList else [])) ++ [10] := by
      rw [lineL, hk, if_pos rfl, hkn, rest_nums hkn (by omega)]
    rw [show wordV d.kind = .tuple #[.string (toB (wordK k)), .int .i64 (numK k)] by rw [wordV, hk, hkn]; rfl]
    (repeat (first | refine VC.seq ?_ | refine VC.region ?_ | refine VC.block ?_ | refine VC.label ?_ | refine VC.scope ?_ | refine VO.go (VO.nil ?_) | refine VO.go (VO.ld 0 rfl rfl rfl rfl ?_)))
    refine VC.condF (by simp [Vg.ev, Vg.look]) (VC.skip ?_)
    (repeat (first | refine VC.seq ?_ | refine VC.region ?_ | refine VC.block ?_ | refine VC.label ?_ | refine VC.scope ?_ | refine VO.go (VO.nil ?_) | refine VO.go (VO.ld 0 rfl rfl rfl rfl ?_)))
    refine VO.go (VO.light (light_buildArr (pv := [(0, .int .i64 d.a), (1, .int .i64 d.b), (2, .int .i64 d.c), (3, .int .i64 d.op.kind), (4, .int .i64 d.op.version)]) ((numsD d).map intC) rfl rfl rfl rfl (by kernel_rfl)) ?_)
    refine VO.go (VO.alloc rfl fun nb => ?_)
    refine VO.go (VO.stA (vs := (numsD d).map intC) 0 rfl rfl rfl rfl (Nat.le_refl _) rfl rfl rfl ?_)
    (repeat (first | refine VC.seq ?_ | refine VC.region ?_ | refine VC.block ?_ | refine VC.label ?_ | refine VC.scope ?_ | refine VO.go (VO.nil ?_) | refine VO.go (VO.ld 0 rfl rfl rfl rfl ?_)))
    refine VC.loop (σ := Nat) (fun i => [(1, .pointer (some ⟨db, 0, none⟩)), (3, .string (toB (wordK k ++ ((numsD d).take i).flatMap numL))), (4, .int .i64 (numK k)), (5, .pointer (some ⟨nb, 0, none⟩)), (6, .int .i64 i)]) (fun _ => [pt nb ((numsD d).map intC) 68, pt db (doC d) 29]) (fun i => i ≤ numK k) (fun i => numK k - i) 0
      (Nat.zero_le _) (Sub.cons rfl (Sub.cons (by simp only [List.take_zero, List.flatMap_nil, List.append_nil]; rfl) (Sub.cons rfl (Sub.cons rfl (Sub.cons rfl (Sub.nil _)))))) Ent.refl ?_
    intro i hi
    have hsz : (toB (wordK k ++ ((numsD d).take i).flatMap numL)).size ≤ 7 + 22 * 5 := by
      have h1 := nums_len (l := (numsD d).take i) fun n hn => hnI n (List.mem_of_mem_take hn)
      have h2 : ((numsD d).take i).length ≤ 5 := by rw [List.length_take]; exact Nat.min_le_right _ _
      rw [toB_size, List.length_append]; omega
    (repeat (first | refine VC.seq ?_ | refine VC.region ?_ | refine VC.block ?_ | refine VC.label ?_ | refine VC.scope ?_ | refine VO.go (VO.nil ?_) | refine VO.go (VO.ld 0 rfl rfl rfl rfl ?_)))
    refine VC.condP rfl (fun h1 => VC.skip ?_) (fun h1 => VC.exit ?_)
    · have hi5 : i < 5 := by omega
      obtain ⟨n, hn⟩ : ∃ n, (numsD d)[i]? = some n := ⟨_, List.getElem?_eq_getElem (by exact hi5)⟩
      have hnn := hnI n (List.mem_of_getElem? hn)
      have hz := numT_len hnn
      (repeat (first | refine VC.seq ?_ | refine VC.region ?_ | refine VC.block ?_ | refine VC.label ?_ | refine VC.scope ?_ | refine VO.go (VO.nil ?_) | refine VO.go (VO.ld 0 rfl rfl rfl rfl ?_)))
      refine VO.go (VO.light (light_cat rfl rfl (by show _ + 1 ≤ _; omega)) ?_)
      (repeat (first | refine VC.seq ?_ | refine VC.region ?_ | refine VC.block ?_ | refine VC.label ?_ | refine VC.scope ?_ | refine VO.go (VO.nil ?_) | refine VO.go (VO.ld 0 rfl rfl rfl rfl ?_)))
      refine VO.go (VO.light (light_idxA i rfl rfl rfl rfl rfl rfl hi5) ?_)
      refine VO.go (VO.load rfl rfl (RdL.one 0 rfl (by rw [Nat.zero_add]; show ((numsD d).map intC)[i * 1]? = some (intC n); rw [Nat.mul_one, List.getElem?_map, hn]; rfl)) ?_)
      refine VO.go (VO.callV (fun Fr w => decimal_spec _ n rfl hnn Fr w) rfl ?_)
      (repeat (first | refine VC.seq ?_ | refine VC.region ?_ | refine VC.block ?_ | refine VC.label ?_ | refine VC.scope ?_ | refine VO.go (VO.nil ?_) | refine VO.go (VO.ld 0 rfl rfl rfl rfl ?_)))
      refine VO.go (VO.light (light_cat rfl rfl (by rw [ByteArray.size_append]; show _ + 1 + _ ≤ _; omega)) ?_)
      (repeat (first | refine VC.seq ?_ | refine VC.region ?_ | refine VC.block ?_ | refine VC.label ?_ | refine VC.scope ?_ | refine VO.go (VO.nil ?_) | refine VO.go (VO.ld 0 rfl rfl rfl rfl ?_)))
      refine VO.go (VO.add rfl rfl (by omega) (by omega) ?_)
      (repeat (first | refine VC.seq ?_ | refine VC.region ?_ | refine VC.block ?_ | refine VC.label ?_ | refine VC.scope ?_ | refine VO.go (VO.nil ?_) | refine VO.go (VO.ld 0 rfl rfl rfl rfl ?_)))
      have e : toB (wordK k ++ ((numsD d).take i).flatMap numL) ++ ⟨#[32]⟩ ++ numT n = toB (wordK k ++ ((numsD d).take (i + 1)).flatMap numL) := by
        rw [List.take_add_one, hn, List.flatMap_append, toB_snoc, numT_toB, toB_cat]; simp [numL]
      exact ⟨i + 1, by omega, by dsimp only; omega, Sub.cons rfl (Sub.cons (by rw [← e]; rfl) (Sub.cons rfl (Sub.cons rfl (Sub.cons rfl (Sub.nil _))))), Ent.refl⟩
    · obtain rfl : i = numK k := by omega
      (repeat (first | refine VC.seq ?_ | refine VC.region ?_ | refine VC.block ?_ | refine VC.label ?_ | refine VC.scope ?_ | refine VO.go (VO.nil ?_) | refine VO.go (VO.ld 0 rfl rfl rfl rfl ?_)))
      refine VC.condP rfl (fun h2 => ?_) (fun h2 => VC.skip ?_)
      · have h5 : numK k = 5 := by omega
        have hks := encT_size d.op.key
        have hvs := encT_size d.op.value
        have hk1000 := h.key
        have hv1000 := h.val
        refine VC.draw (ts 0 5 (ts 8 3 (.only 5 (ts 6 2 (.only 11 (ts 12 2 .nil)))))) (by kernel_rfl) (by decide +kernel) ?_
        (repeat (first | refine VA.go (VA.nil ?_) | refine VA.go (VA.ld 0 rfl rfl rfl rfl rfl ?_) | refine VA.go (VA.ld 1 rfl rfl rfl rfl rfl ?_) | refine VA.go (VA.offU rfl rfl rfl rfl ?_)))
        refine VA.go (VA.light rfl (light_cat rfl rfl (by show _ + 1 ≤ _; omega)) ?_)
        (repeat (first | refine VA.go (VA.nil ?_) | refine VA.go (VA.ld 0 rfl rfl rfl rfl rfl ?_) | refine VA.go (VA.ld 1 rfl rfl rfl rfl rfl ?_) | refine VA.go (VA.offU rfl rfl rfl rfl ?_)))
        refine VA.go (VA.callR (fun Fr w hF hs hS => rbytes_spec Fr w d.op.key (by omega)) rfl rfl (by (try refine Pd.st ?_); (repeat (first | exact Pd.nil | exact Pd.fnil | refine Pd.inner ?_ | refine Pd.skip (by decide +kernel) ?_ | refine Pd.fcons (RdL.one 0 rfl rfl) ?_ | refine Pd.fcons (RdL.one 1 rfl rfl) ?_ | refine Pd.fcons (RdL.many 0 rfl rfl) ?_ | refine Pd.fcons (RdL.many 1 rfl rfl) ?_ | refine Pd.cons (RdL.one 0 rfl rfl) ?_ | refine Pd.cons (RdL.one 1 rfl rfl) ?_ | refine Pd.cons (RdL.many 0 rfl rfl) ?_ | refine Pd.cons (RdL.many 1 rfl rfl) ?_ | refine Pd.fconsM (MpL.one 0 rfl) ?_ | refine Pd.fconsM (MpL.one 1 rfl) ?_ | refine Pd.consM (MpL.one 0 rfl) ?_ | refine Pd.consM (MpL.one 1 rfl) ?_))) ?_)
        (repeat (first | refine VA.go (VA.nil ?_) | refine VA.go (VA.ld 0 rfl rfl rfl rfl rfl ?_) | refine VA.go (VA.ld 1 rfl rfl rfl rfl rfl ?_) | refine VA.go (VA.offU rfl rfl rfl rfl ?_)))
        refine VA.go (VA.light rfl (light_cat rfl rfl (by rw [ByteArray.size_append]; show _ + 1 + _ ≤ _; omega)) ?_)
        refine VA.go (VA.light rfl (light_cat rfl rfl (by rw [ByteArray.size_append, ByteArray.size_append]; show _ + 1 + _ + 1 ≤ _; omega)) ?_)
        (repeat (first | refine VA.go (VA.nil ?_) | refine VA.go (VA.ld 0 rfl rfl rfl rfl rfl ?_) | refine VA.go (VA.ld 1 rfl rfl rfl rfl rfl ?_) | refine VA.go (VA.offU rfl rfl rfl rfl ?_)))
        refine VA.go (VA.callR (fun Fr w hF hs hS => rbytes_spec Fr w d.op.value (by omega)) rfl rfl (by (try refine Pd.st ?_); (repeat (first | exact Pd.nil | exact Pd.fnil | refine Pd.inner ?_ | refine Pd.skip (by decide +kernel) ?_ | refine Pd.fcons (RdL.one 0 rfl rfl) ?_ | refine Pd.fcons (RdL.one 1 rfl rfl) ?_ | refine Pd.fcons (RdL.many 0 rfl rfl) ?_ | refine Pd.fcons (RdL.many 1 rfl rfl) ?_ | refine Pd.cons (RdL.one 0 rfl rfl) ?_ | refine Pd.cons (RdL.one 1 rfl rfl) ?_ | refine Pd.cons (RdL.many 0 rfl rfl) ?_ | refine Pd.cons (RdL.many 1 rfl rfl) ?_ | refine Pd.fconsM (MpL.one 0 rfl) ?_ | refine Pd.fconsM (MpL.one 1 rfl) ?_ | refine Pd.consM (MpL.one 0 rfl) ?_ | refine Pd.consM (MpL.one 1 rfl) ?_))) ?_)
        (repeat (first | refine VA.go (VA.nil ?_) | refine VA.go (VA.ld 0 rfl rfl rfl rfl rfl ?_) | refine VA.go (VA.ld 1 rfl rfl rfl rfl rfl ?_) | refine VA.go (VA.offU rfl rfl rfl rfl ?_)))
        refine VA.go (VA.light rfl (light_cat rfl rfl (by rw [ByteArray.size_append, ByteArray.size_append, ByteArray.size_append]; show _ + 1 + _ + 1 + _ ≤ _; omega)) ?_)
        (repeat (first | refine VA.go (VA.nil ?_) | refine VA.go (VA.ld 0 rfl rfl rfl rfl rfl ?_) | refine VA.go (VA.ld 1 rfl rfl rfl rfl rfl ?_) | refine VA.go (VA.offU rfl rfl rfl rfl ?_)))
        (repeat (first | refine VC.seq ?_ | refine VC.region ?_ | refine VC.block ?_ | refine VC.label ?_ | refine VC.scope ?_ | refine VO.go (VO.nil ?_) | refine VO.go (VO.ld 0 rfl rfl rfl rfl ?_)))
        refine VO.go (VO.light (light_cat rfl rfl (by rw [ByteArray.size_append, ByteArray.size_append, ByteArray.size_append, ByteArray.size_append]; show _ + 1 + _ + 1 + _ + 1 ≤ _; omega)) ?_)
        (repeat (first | refine VC.seq ?_ | refine VC.region ?_ | refine VC.block ?_ | refine VC.label ?_ | refine VC.scope ?_ | refine VO.go (VO.nil ?_) | refine VO.go (VO.ld 0 rfl rfl rfl rfl ?_)))
        exact VC.ret (Ret.tmp 2 rfl rfl Imp.nil.ent ⟨by
          rw [hll, if_pos h5]
          rw [toB_snoc, ← toB_data (encT d.op.key), ← toB_data (encT d.op.value), toB_cat, toB_snoc, toB_cat, toB_snoc]
          simp [toB_data], rfl⟩)
      · have h5 : ¬ numK k = 5 := by omega
        (repeat (first | refine VC.seq ?_ | refine VC.region ?_ | refine VC.block ?_ | refine VC.label ?_ | refine VC.scope ?_ | refine VO.go (VO.nil ?_) | refine VO.go (VO.ld 0 rfl rfl rfl rfl ?_)))
        refine VO.go (VO.light (light_cat rfl rfl (by show _ + 1 ≤ _; omega)) ?_)
        (repeat (first | refine VC.seq ?_ | refine VC.region ?_ | refine VC.block ?_ | refine VC.label ?_ | refine VC.scope ?_ | refine VO.go (VO.nil ?_) | refine VO.go (VO.ld 0 rfl rfl rfl rfl ?_)))
        exact VC.ret (Ret.tmp 2 rfl rfl Imp.nil.ent ⟨by rw [hll, if_neg h5, toB_snoc]; simp, rfl⟩)

/-! ### Steps, and the same ones -/
set_option maxRecDepth 100000 in
theorem rput_spec (Fr : Nat → Prop) (w : World) {a : Option Addr} {cap : Nat} {l : List DoM} (h : RwIn doC 8 Fr w a l) (hl : l.length ≤ 3000) (hok : ∀ d ∈ l, d.Ok) : Tri Tryd.prog 14 [.slice a l.length cap] Fr w [] (fun v L => v = .string (toB (putL l)) ∧ L = []) := by
  refine Tri.of 19 Tryd.func14 rfl (by kernel_rfl) tabOk rfl rfl ?_
  (repeat (first | refine VC.seq ?_ | refine VC.region ?_ | refine VC.block ?_ | refine VC.label ?_ | refine VC.scope ?_ | refine VO.go (VO.nil ?_) | refine VO.go (VO.ld 0 rfl rfl rfl rfl ?_)))
  refine VC.loop (σ := Nat) (fun i => [(0, .slice a l.length cap), (3, .string (toB (putL (l.take i)))), (4, .int .i64 i)]) (fun _ => []) (fun i => i ≤ l.length) (fun i => l.length - i) 0
    (Nat.zero_le _) (Sub.cons rfl (Sub.cons rfl (Sub.cons rfl (Sub.nil _)))) Ent.refl ?_
  intro i hi
  (repeat (first | refine VC.seq ?_ | refine VC.region ?_ | refine VC.block ?_ | refine VC.label ?_ | refine VC.scope ?_ | refine VO.go (VO.nil ?_) | refine VO.go (VO.ld 0 rfl rfl rfl rfl ?_)))
  refine VC.condP rfl (fun h1 => VC.skip ?_) (fun h1 => VC.exit ?_)
  · have hi2 : i < l.length := by omega
    obtain ⟨d, hd⟩ : ∃ d, l[i]? = some d := ⟨_, List.getElem?_eq_getElem hi2⟩
    have hdk := hok d (List.mem_of_getElem? hd)
    obtain ⟨fb, fo, rfl, ra, rc⟩ := RwIn.rd (X := ⟨Tryd.prog, tab, tabOk, 19, Fr, w⟩) h hd
    have hp : (putL (l.take i)).length ≤ 16500 * (l.take i).length := flatMap_len fun d hd => lineL_len (hok d (List.mem_of_mem_take hd))
    rw [List.length_take] at hp
    have hl2 := lineL_len hdk
    (repeat (first | refine VC.seq ?_ | refine VC.region ?_ | refine VC.block ?_ | refine VC.label ?_ | refine VC.scope ?_ | refine VO.go (VO.nil ?_) | refine VO.go (VO.ld 0 rfl rfl rfl rfl ?_)))
    refine VO.go (VO.light (light_idx i rfl rfl rfl rfl rfl rfl hi2) ?_)
    refine VO.go (VO.load rfl rfl (ra _ _ rfl rfl) ?_)
    refine VO.go (VO.callV' (fun Fr w hF hw _ => line_spec Fr w hdk) rfl ?_)
    (repeat (first | refine VC.seq ?_ | refine VC.region ?_ | refine VC.block ?_ | refine VC.label ?_ | refine VC.scope ?_ | refine VO.go (VO.nil ?_) | refine VO.go (VO.ld 0 rfl rfl rfl rfl ?_)))
    refine VO.go (VO.light (light_cat rfl rfl (by rw [toB_size, toB_size]; omega)) ?_)
    (repeat (first | refine VC.seq ?_ | refine VC.region ?_ | refine VC.block ?_ | refine VC.label ?_ | refine VC.scope ?_ | refine VO.go (VO.nil ?_) | refine VO.go (VO.ld 0 rfl rfl rfl rfl ?_)))
    refine VO.go (VO.add rfl rfl (by omega) (by omega) ?_)
    (repeat (first | refine VC.seq ?_ | refine VC.region ?_ | refine VC.block ?_ | refine VC.label ?_ | refine VC.scope ?_ | refine VO.go (VO.nil ?_) | refine VO.go (VO.ld 0 rfl rfl rfl rfl ?_)))
    have e : toB (putL (l.take i)) ++ toB (lineL d) = toB (putL (l.take (i + 1))) := by
      rw [List.take_add_one, hd, putL_app, toB_cat]; simp [putL]
    exact ⟨i + 1, hi2, by dsimp only; omega, Sub.cons rfl (Sub.cons (by rw [← e]; rfl) (Sub.cons rfl (Sub.nil _))), Ent.refl⟩
  · obtain rfl : i = l.length := by omega
    rw [List.take_length]
    (repeat (first | refine VC.seq ?_ | refine VC.region ?_ | refine VC.block ?_ | refine VC.label ?_ | refine VC.scope ?_ | refine VO.go (VO.nil ?_) | refine VO.go (VO.ld 0 rfl rfl rfl rfl ?_)))
    exact VC.ret (Ret.tmp 2 rfl rfl Ent.refl ⟨rfl, rfl⟩)
theorem line_nil {d : DoM} : lineL d = [] ↔ isK d.kind = false := by
  unfold lineL
  cases isK d.kind <;> simp
theorem opEq_iff {o p : OpM} : opEq o p = true ↔ o = p := by
  constructor
  · intro h
    simp only [opEq, Bool.and_eq_true, decide_eq_true_eq, and_true] at h
    obtain ⟨h1, h2, h3, h4⟩ := h
    cases o; cases p; simp_all
  · rintro rfl; exact opEq_self o
theorem line_inj {d e : DoM} (hd : d.Ok) (he : e.Ok) (hk : isK d.kind = true) (h : lineL d = lineL e) : normD d = normD e := by
  have hke : isK e.kind = true := by
    cases hh : isK e.kind with
    | true => rfl
    | false => rw [line_nil.2 hh, line_nil, hk] at h; cases h
  have h1 := lineR_fwd hd hk
  have h2 := lineR_fwd he hke
  have e1 : wordK d.kind.toNat ++ restL d = wordK e.kind.toNat ++ restL e := by
    unfold lineL at h
    rw [hk, hke, if_pos rfl, if_pos rfl] at h
    exact List.append_cancel_right h
  rw [e1, h2] at h1
  exact (Option.some.inj h1).symm
theorem same_lines {d e : DoM} (hd : d.Ok) (he : e.Ok) : sameM d e = (!decide (lineL d = []) && decide (lineL d = lineL e)) := by
  cases hk : isK d.kind with
  | false => rw [same_none hk, line_nil.2 hk]; rfl
  | true =>
    have hne : lineL d ≠ [] := fun h => by rw [line_nil, hk] at h; cases h
    obtain ⟨k, hk0, hk1, hk2⟩ := isK_nat hk
    have hkn : d.kind.toNat = k := by rw [hk0]; rfl
    rw [decide_eq_false hne]
    show _ = (true && decide (lineL d = lineL e))
    rw [Bool.true_and]
    unfold sameM
    rw [hk, Bool.true_and, hkn]
    by_cases hke : d.kind = e.kind
    · rw [show (d.kind == e.kind) = true by simp [hke], Bool.true_and]
      have hen : e.kind.toNat = k := by rw [← hke]; exact hkn
      by_cases hl : lineL d = lineL e
      · have hN := line_inj hd he hk hl
        rw [decide_eq_true hl]
        unfold normD at hN
        rw [hkn, hen] at hN
        rcases uses_four (k := k) (by omega) with hu | hu | hu | hu <;> rw [hu] at hN ⊢ <;> simp [setU, sA, sB, sCc, sOp, diffU] at hN ⊢
        · rw [hN.2.1, hN.2.2.1, hN.2.2.2.1, hN.2.2.2.2, opEq_self]; simp
        · rw [hN.2.1, hN.2.2.1, hN.2.2.2]; simp
        · rw [hN.2]
      · rw [decide_eq_false hl]
        cases hall : (usesK k).all fun c => !diffU d e c with
        | false => rfl
        | true =>
          refine (hl ?_).elim
          have hke' : isK e.kind = true := by rw [← hke]; exact hk
          unfold lineL restL
          rw [hk, hke', hkn, hen]
          rcases uses_four (k := k) (by omega) with hu | hu | hu | hu <;> rw [hu] at hall ⊢ <;> simp [diffU, useT, opEq_iff] at hall ⊢
          · rw [hall.1, hall.2.1, hall.2.2.1, hall.2.2.2]
          · rw [hall.1, hall.2.1, hall.2.2]
          · rw [hall]
    · rw [show (d.kind == e.kind) = false by simp [hke], Bool.false_and]
      refine (decide_eq_false fun hl => hke ?_).symm
      have := congrArg DoM.kind (line_inj hd he hk hl)
      rw [normD_kind, normD_kind] at this
      exact this

set_option maxRecDepth 100000 in
set_option maxHeartbeats 1000000 in
theorem rsame_spec (Fr : Nat → Prop) (w : World) {d e : DoM} (hd : d.Ok) (he : e.Ok) : Tri Tryd.prog 10 [.agg (doC d).toArray, .agg (doC e).toArray] Fr w [] (fun v L => v = .bool (sameM d e) ∧ L = []) := by
  rw [same_lines hd he]
  refine Tri.of 15 Tryd.func10 rfl (by kernel_rfl) tabOk rfl rfl ?_
  refine VC.seq (VC.region (VO.go (VO.boxA (vs := doC d) rfl fun db => VO.go (VO.boxA (vs := doC e) rfl fun eb => ?_))))
  refine VO.go (VO.nil ?_)
  refine VC.seq (VC.draw (.take 0 (.only 1 (.take 2 (.take 3 (.take 4 (.take 6 (.only 5 (.only 7 (ts 8 3 .nil))))))))) (by kernel_rfl) (by decide +kernel) ?_)
  refine VA.go (VA.ldA 1 (doC d) rfl rfl rfl rfl rfl ?_)
  refine VA.go (VA.callR (fun Fr w hF hs hS => line_spec Fr w hd) rfl rfl (by (try refine Pd.st ?_); (repeat (first | exact Pd.nil | exact Pd.fnil | refine Pd.inner ?_ | refine Pd.skip (by decide +kernel) ?_ | refine Pd.fcons (RdL.one 0 rfl rfl) ?_ | refine Pd.fcons (RdL.one 1 rfl rfl) ?_ | refine Pd.fcons (RdL.many 0 rfl rfl) ?_ | refine Pd.fcons (RdL.many 1 rfl rfl) ?_ | refine Pd.cons (RdL.one 0 rfl rfl) ?_ | refine Pd.cons (RdL.one 1 rfl rfl) ?_ | refine Pd.cons (RdL.many 0 rfl rfl) ?_ | refine Pd.cons (RdL.many 1 rfl rfl) ?_ | refine Pd.fconsM (MpL.one 0 rfl) ?_ | refine Pd.fconsM (MpL.one 1 rfl) ?_ | refine Pd.consM (MpL.one 0 rfl) ?_ | refine Pd.consM (MpL.one 1 rfl) ?_))) ?_)
  (repeat (first | refine VA.go (VA.nil ?_) | refine VA.go (VA.ld 0 rfl rfl rfl rfl rfl ?_) | refine VA.go (VA.ld 1 rfl rfl rfl rfl rfl ?_) | refine VA.go (VA.offU rfl rfl rfl rfl ?_)))
  by_cases h0 : lineL d = []
  · refine VA.go (VA.yes 8 false rfl (by rw [strEq, h0]; rfl) ?_)
    (repeat (first | refine VA.go (VA.nil ?_) | refine VA.go (VA.ld 0 rfl rfl rfl rfl rfl ?_) | refine VA.go (VA.ld 1 rfl rfl rfl rfl rfl ?_) | refine VA.go (VA.offU rfl rfl rfl rfl ?_)))
    refine VA.go (VA.offO rfl rfl ?_)
    refine VA.go (VA.offO rfl rfl ?_)
    (repeat (first | refine VA.go (VA.nil ?_) | refine VA.go (VA.ld 0 rfl rfl rfl rfl rfl ?_) | refine VA.go (VA.ld 1 rfl rfl rfl rfl rfl ?_) | refine VA.go (VA.offU rfl rfl rfl rfl ?_)))
    exact VC.ret (Ret.tmp 4 rfl rfl Imp.nil.ent ⟨by rw [decide_eq_true h0]; rfl, rfl⟩)
  · have hne : toB (lineL d) ≠ (⟨#[]⟩ : ByteArray) := fun h => h0 (by have := congrArg (fun x : ByteArray => x.data.toList) h; simpa [toB] using this)
    refine VA.go (VA.yes 8 true rfl (by rw [strEq, decide_eq_false hne]; rfl) ?_)
    (repeat (first | refine VA.go (VA.nil ?_) | refine VA.go (VA.ld 0 rfl rfl rfl rfl rfl ?_) | refine VA.go (VA.ld 1 rfl rfl rfl rfl rfl ?_) | refine VA.go (VA.offU rfl rfl rfl rfl ?_)))
    refine VA.go (VA.ldA 1 (doC d) rfl rfl rfl rfl rfl ?_)
    refine VA.go (VA.ldA 0 (doC e) rfl rfl rfl rfl rfl ?_)
    refine VA.go (VA.callR (fun Fr w hF hs hS => line_spec Fr w hd) rfl rfl (by (try refine Pd.st ?_); (repeat (first | exact Pd.nil | exact Pd.fnil | refine Pd.inner ?_ | refine Pd.skip (by decide +kernel) ?_ | refine Pd.fcons (RdL.one 0 rfl rfl) ?_ | refine Pd.fcons (RdL.one 1 rfl rfl) ?_ | refine Pd.fcons (RdL.many 0 rfl rfl) ?_ | refine Pd.fcons (RdL.many 1 rfl rfl) ?_ | refine Pd.cons (RdL.one 0 rfl rfl) ?_ | refine Pd.cons (RdL.one 1 rfl rfl) ?_ | refine Pd.cons (RdL.many 0 rfl rfl) ?_ | refine Pd.cons (RdL.many 1 rfl rfl) ?_ | refine Pd.fconsM (MpL.one 0 rfl) ?_ | refine Pd.fconsM (MpL.one 1 rfl) ?_ | refine Pd.consM (MpL.one 0 rfl) ?_ | refine Pd.consM (MpL.one 1 rfl) ?_))) ?_)
    refine VA.go (VA.callR (fun Fr w hF hs hS => line_spec Fr w he) rfl rfl (by (try refine Pd.st ?_); (repeat (first | exact Pd.nil | exact Pd.fnil | refine Pd.inner ?_ | refine Pd.skip (by decide +kernel) ?_ | refine Pd.fcons (RdL.one 0 rfl rfl) ?_ | refine Pd.fcons (RdL.one 1 rfl rfl) ?_ | refine Pd.fcons (RdL.many 0 rfl rfl) ?_ | refine Pd.fcons (RdL.many 1 rfl rfl) ?_ | refine Pd.cons (RdL.one 0 rfl rfl) ?_ | refine Pd.cons (RdL.one 1 rfl rfl) ?_ | refine Pd.cons (RdL.many 0 rfl rfl) ?_ | refine Pd.cons (RdL.many 1 rfl rfl) ?_ | refine Pd.fconsM (MpL.one 0 rfl) ?_ | refine Pd.fconsM (MpL.one 1 rfl) ?_ | refine Pd.consM (MpL.one 0 rfl) ?_ | refine Pd.consM (MpL.one 1 rfl) ?_))) ?_)
    (repeat (first | refine VA.go (VA.nil ?_) | refine VA.go (VA.ld 0 rfl rfl rfl rfl rfl ?_) | refine VA.go (VA.ld 1 rfl rfl rfl rfl rfl ?_) | refine VA.go (VA.offU rfl rfl rfl rfl ?_)))
    exact VC.ret (Ret.bool 4 rfl rfl (by
      rw [strEq, decide_eq_false h0]
      show decide _ = (true && _)
      rw [Bool.true_and]
      by_cases h2 : lineL d = lineL e
      · rw [h2]; simp
      · rw [decide_eq_false h2, decide_eq_false fun h => h2 (by have := congrArg (fun x : ByteArray => x.data.toList) h; simpa [toB] using this)]) Imp.nil.ent ⟨rfl, rfl⟩)
end Go.Proofs.YtceobomlmdmicaaDoor.Scr
namespace Go.Proofs.YtceobomlmdmicaaDoor.Vg
open Go
/-- string(b) of no bytes. -/
theorem light_strNil {X : Cx} {e : Env} {s d el l c : Nat} {ts td te : TI} {x : Operand} (hx : ev e x = some (.slice none l c)) (hS : tyLook X.tab s = some ts) (hsu : ts.und = .slice el) (hE : tyLook X.tab el = some te) (hEu : te.und = .int .u8)
    (hD : tyLook X.tab d = some td) (hdu : td.und = .string) : Light X (.convert s d x) e (.string ByteArray.empty) := by
  intro a ha dst ty pos after guard w
  have h1 := und_slice (X.ok.look hS) hsu
  have h2 := und_int (X.ok.look hE) hEu
  have h3 := und_string (X.ok.look hD) hdu
  have hr := run_convert_bytes_nil (P := X.P) (w := w) s el h1 h2 l c d h3
  simp only [execOp, ha.ev hx]
  rw [Sem.run_bind, hr]; rfl
end Go.Proofs.YtceobomlmdmicaaDoor.Vg
namespace Go.Proofs.YtceobomlmdmicaaDoor.Scr
open Go Go.Proofs.YtceobomlmdmicaaDoor.Vg Go.Proofs.YtceobomlmdmicaaDoor.T Go.Proofs.YtceobomlmdmicaaDoor.Api Go.Proofs.YtceobomlmdmicaaDoor.LibC
set_option linter.unusedSimpArgs false
set_option linter.unusedVariables false
attribute [local irreducible] VO VC VA

/-- A digit's value; 16: it is none. -/
def vn (c : UInt8) : Nat := if val c < 0 then 16 else (val c).toNat
theorem vn_of {c : UInt8} {i : Nat} (hi : i < 16) (h : dig i = c) : vn c = i := by
  subst h; unfold vn; rw [val_dig hi, if_neg (by omega)]; rfl
theorem vn_no {c : UInt8} (h : ∀ j, j < 16 → dig j ≠ c) : vn c = 16 := by
  unfold vn
  rcases val_table c with h1 | ⟨h1, h2⟩
  · rw [h1]; rfl
  · exact (h _ (by omega) (dig_val c h1)).elim
theorem vn_le (c : UInt8) : vn c ≤ 16 := by
  unfold vn; have := val_table c; split <;> omega
theorem vn_dec (c : UInt8) : (vn c ≤ 9 ∧ 48 ≤ c.toNat ∧ c.toNat ≤ 57 ∧ vn c = c.toNat - 48) ∨ (9 < vn c ∧ ¬ (48 ≤ c.toNat ∧ c.toNat ≤ 57)) := by
  have h : ∀ n : Fin 256, (vn (UInt8.ofNat n.val) ≤ 9 ∧ 48 ≤ (UInt8.ofNat n.val).toNat ∧ (UInt8.ofNat n.val).toNat ≤ 57 ∧ vn (UInt8.ofNat n.val) = (UInt8.ofNat n.val).toNat - 48) ∨ (9 < vn (UInt8.ofNat n.val) ∧ ¬ (48 ≤ (UInt8.ofNat n.val).toNat ∧ (UInt8.ofNat n.val).toNat ≤ 57)) := by decide +kernel
  have := h ⟨c.toNat, c.toNat_lt⟩
  simpa using this

theorem u8_eq {a b : UInt8} : ((a.toNat : Int) = (b.toNat : Int)) ↔ a = b := by
  constructor
  · intro h; exact UInt8.toNat.inj (by omega)
  · rintro rfl; rfl
theorem value_spec (Fr : Nat → Prop) (w : World) (c : UInt8) : Tri Tryd.prog 43 [.int .u8 (c.toNat : Int)] Fr w [] (fun v L => v = .int .i64 (vn c : Int) ∧ L = []) := by
  refine Tri.of 14 Tryd.func43 rfl (by kernel_rfl) tabOk rfl rfl ?_
  (repeat (first | refine VC.seq ?_ | refine VC.region ?_ | refine VC.block ?_ | refine VC.label ?_ | refine VC.scope ?_ | refine VO.go (VO.nil ?_) | refine VO.go (VO.ld 0 rfl rfl rfl rfl ?_)))
  refine VC.loop (σ := Nat) (fun i => [(0, .int .u8 (c.toNat : Int)), (3, .int .i64 i)]) (fun _ => []) (fun i => i ≤ 16 ∧ ∀ j, j < i → dig j ≠ c) (fun i => 16 - i) 0
    ⟨Nat.zero_le _, fun j hj => by omega⟩ (Sub.cons rfl (Sub.cons rfl (Sub.nil _))) Ent.refl ?_
  rintro i ⟨hi, hno⟩
  (repeat (first | refine VC.seq ?_ | refine VC.region ?_ | refine VC.block ?_ | refine VC.label ?_ | refine VC.scope ?_ | refine VO.go (VO.nil ?_) | refine VO.go (VO.ld 0 rfl rfl rfl rfl ?_)))
  refine VC.condP rfl (fun h1 => VC.skip ?_) (fun h1 => VC.exit ?_)
  · have hi2 : i < 16 := by omega
    (repeat (first | refine VC.seq ?_ | refine VC.region ?_ | refine VC.block ?_ | refine VC.label ?_ | refine VC.scope ?_ | refine VO.go (VO.nil ?_) | refine VO.go (VO.ld 0 rfl rfl rfl rfl ?_)))
    refine VO.go (VO.callV' (fun Fr w hF hw _ => digit_spec Fr w hi2) rfl ?_)
    (repeat (first | refine VC.seq ?_ | refine VC.region ?_ | refine VC.block ?_ | refine VC.label ?_ | refine VC.scope ?_ | refine VO.go (VO.nil ?_) | refine VO.go (VO.ld 0 rfl rfl rfl rfl ?_)))
    refine VO.go (VO.light (light_strAt (s := toB [dig i]) (b := dig i) 0 rfl rfl rfl rfl rfl rfl) ?_)
    (repeat (first | refine VC.seq ?_ | refine VC.region ?_ | refine VC.block ?_ | refine VC.label ?_ | refine VC.scope ?_ | refine VO.go (VO.nil ?_) | refine VO.go (VO.ld 0 rfl rfl rfl rfl ?_)))
    refine VC.condP rfl (fun h2 => ?_) (fun h2 => VC.skip ?_)
    · have h2 : dig i = c := u8_eq.1 h2
      (repeat (first | refine VC.seq ?_ | refine VC.region ?_ | refine VC.block ?_ | refine VC.label ?_ | refine VC.scope ?_ | refine VO.go (VO.nil ?_) | refine VO.go (VO.ld 0 rfl rfl rfl rfl ?_)))
      exact VC.ret (Ret.tmp 2 rfl rfl Ent.refl ⟨by rw [vn_of hi2 h2], rfl⟩)
    · have h2 : dig i ≠ c := fun h => h2 (u8_eq.2 h)
      (repeat (first | refine VC.seq ?_ | refine VC.region ?_ | refine VC.block ?_ | refine VC.label ?_ | refine VC.scope ?_ | refine VO.go (VO.nil ?_) | refine VO.go (VO.ld 0 rfl rfl rfl rfl ?_)))
      refine VO.go (VO.add rfl rfl (by omega) (by omega) ?_)
      (repeat (first | refine VC.seq ?_ | refine VC.region ?_ | refine VC.block ?_ | refine VC.label ?_ | refine VC.scope ?_ | refine VO.go (VO.nil ?_) | refine VO.go (VO.ld 0 rfl rfl rfl rfl ?_)))
      exact ⟨i + 1, ⟨hi2, fun j hj => by
        by_cases hji : j = i
        · rw [hji]; exact h2
        · exact hno j (by omega)⟩, by dsimp only; omega, Sub.cons rfl (Sub.cons rfl (Sub.nil _)), Ent.refl⟩
  · (repeat (first | refine VC.seq ?_ | refine VC.region ?_ | refine VC.block ?_ | refine VC.label ?_ | refine VC.scope ?_ | refine VO.go (VO.nil ?_) | refine VO.go (VO.ld 0 rfl rfl rfl rfl ?_)))
    exact VC.ret (Ret.tmp 2 rfl rfl Ent.refl ⟨by rw [vn_no fun j hj => hno j (by omega)]; rfl, rfl⟩)

/-! ### A number, read -/
def vlF (a : Nat) (l : List UInt8) : Nat := l.foldl (fun a c => 10 * a + (c.toNat - 48)) a
def vl (l : List UInt8) : Nat := vlF 0 l
theorem vl_snoc (l : List UInt8) (c : UInt8) : vl (l ++ [c]) = 10 * vl l + (c.toNat - 48) := by simp [vl, vlF]
theorem vlF_le : ∀ (l : List UInt8) (a : Nat), a ≤ vlF a l
  | [], a => Nat.le_refl _
  | c :: l, a => by
    have := vlF_le l (10 * a + (c.toNat - 48))
    show a ≤ vlF (10 * a + (c.toNat - 48)) l
    omega
theorem vl_app (l m : List UInt8) : vl l ≤ vl (l ++ m) := by
  rw [vl, vl, vlF, vlF, List.foldl_append]; exact vlF_le m _
theorem vl_digits (u : Nat) : vl (Lib.decDigits u) = u := by
  induction u using Nat.strongRecOn with
  | _ u ih =>
    rw [Lib.decDigits]
    split
    · rename_i h; show 10 * 0 + ((UInt8.ofNat (48 + u)).toNat - 48) = u; rw [digit_nat u h]; omega
    · rw [vl_snoc, ih (u / 10) (by omega), digit_nat _ (by omega)]; omega
def fromR (w : ByteArray) : Nat := if w.data.toList.head? = some 45 then 1 else 0
/-- What a number's word is. -/
theorem num_word {n : Int} : (numT n).data.toList.drop (fromR (numT n)) = Lib.decDigits n.natAbs ∧ (fromR (numT n) = 1 ↔ n < 0) := by
  have hd : (numT n).data.toList = Lib.itoa n := by simp [numT]
  unfold fromR
  rw [hd]
  unfold Lib.itoa
  by_cases hn : n < 0
  · rw [if_pos hn]; simp [hn]
  · rw [if_neg hn, show n.toNat = n.natAbs by omega]
    cases hc : Lib.decDigits n.natAbs with
    | nil => exact (digits_ne _ hc).elim
    | cons c r =>
      have hr := digits_range n.natAbs c (by rw [hc]; simp)
      have : c ≠ 45 := fun e => by rw [e] at hr; exact absurd hr.1 (by decide)
      simp [this, hn]
def NumSp (w : ByteArray) (v : Int) : Prop := isI v ∧ ∀ n, isI n → w = numT n → v = n
theorem wrap_neg {m : Nat} (h : m ≤ 9223372036854775808) : isI (IntKind.i64.wrap (0 - -(m : Int))) ∧ (m ≤ 9223372036854775807 → IntKind.i64.wrap (0 - -(m : Int)) = m) := by
  by_cases h1 : m ≤ 9223372036854775807
  · have := i64_in (0 - -(m : Int)) (by omega) (by omega)
    rw [this]
    exact ⟨⟨by omega, by omega⟩, fun _ => by omega⟩
  · obtain rfl : m = 9223372036854775808 := by omega
    exact ⟨by constructor <;> decide, fun h => by omega⟩

set_option maxRecDepth 100000 in
set_option maxHeartbeats 1000000 in
theorem rnumber_spec (Fr : Nat → Prop) (w : World) (s : ByteArray) (hs : s.size ≤ 1000000) : Tri Tryd.prog 34 [.string s] Fr w [] (fun v L => (∃ n, v = .int .i64 n ∧ NumSp s n) ∧ L = []) := by
  refine Tri.of 45 Tryd.func34 rfl (by kernel_rfl) tabOk rfl rfl ?_
  refine VC.seq (VC.region (VO.go (VO.nil ?_)))
  refine VC.seq (VC.region (VO.go (VO.nil (VC.seq ?_))))
  refine VC.meetS (σ := Unit) (fun _ => [(0, .string s), (3, .int .i64 0), (4, .int .i64 (fromR s))]) (fun _ => []) (fun _ => True) ?_ ?_
  · (repeat (first | refine VC.seq ?_ | refine VC.region ?_ | refine VC.block ?_ | refine VC.label ?_ | refine VC.scope ?_ | refine VO.go (VO.nil ?_) | refine VO.go (VO.ld 0 rfl rfl rfl rfl ?_)))
    cases hd : s.data.toList with
    | nil =>
      have h0 : fromR s = 0 := by unfold fromR; rw [hd]; rfl
      have hz : s.size = 0 := by rw [← data_len, hd]; rfl
      refine VO.go (VO.yes 10 false rfl (decide_eq_false (by omega)) ?_)
      (repeat (first | refine VC.seq ?_ | refine VC.region ?_ | refine VC.block ?_ | refine VC.label ?_ | refine VC.scope ?_ | refine VO.go (VO.nil ?_) | refine VO.go (VO.ld 0 rfl rfl rfl rfl ?_) | refine VO.go (VO.offU rfl rfl rfl ?_)))
      refine VC.condF rfl (VC.skip ?_)
      exact ⟨(), trivial, Sub.cons rfl (Sub.cons rfl (Sub.cons (by rw [h0]; rfl) (Sub.nil _))), Ent.refl⟩
    | cons c r =>
      have hz : 0 < s.size := by rw [← data_len, hd]; simp
      refine VO.go (VO.yes 10 true rfl (decide_eq_true (by omega)) ?_)
      (repeat (first | refine VC.seq ?_ | refine VC.region ?_ | refine VC.block ?_ | refine VC.label ?_ | refine VC.scope ?_ | refine VO.go (VO.nil ?_) | refine VO.go (VO.ld 0 rfl rfl rfl rfl ?_) | refine VO.go (VO.offU rfl rfl rfl ?_)))
      refine VO.go (VO.light (light_strAt 0 rfl rfl rfl rfl rfl (by rw [hd]; rfl)) ?_)
      (repeat (first | refine VC.seq ?_ | refine VC.region ?_ | refine VC.block ?_ | refine VC.label ?_ | refine VC.scope ?_ | refine VO.go (VO.nil ?_) | refine VO.go (VO.ld 0 rfl rfl rfl rfl ?_) | refine VO.go (VO.offU rfl rfl rfl ?_)))
      refine VC.condP rfl (fun h1 => ?_) (fun h1 => VC.skip ?_)
      · have h1 : c = 45 := u8_eq.1 h1
        have h0 : fromR s = 1 := by unfold fromR; rw [hd, h1]; rfl
        (repeat (first | refine VC.seq ?_ | refine VC.region ?_ | refine VC.block ?_ | refine VC.label ?_ | refine VC.scope ?_ | refine VO.go (VO.nil ?_) | refine VO.go (VO.ld 0 rfl rfl rfl rfl ?_)))
        exact ⟨(), trivial, Sub.cons rfl (Sub.cons rfl (Sub.cons (by rw [h0]; rfl) (Sub.nil _))), Ent.refl⟩
      · have h1 : c ≠ 45 := fun h => h1 (u8_eq.2 h)
        have h0 : fromR s = 0 := by unfold fromR; rw [hd]; simp [h1]
        exact ⟨(), trivial, Sub.cons rfl (Sub.cons rfl (Sub.cons (by rw [h0]; rfl) (Sub.nil _))), Ent.refl⟩
  rintro _ _
  have hfr : fromR s ≤ s.size := by
    unfold fromR
    split
    · rename_i h
      rw [← data_len]
      cases hl : s.data.toList with
      | nil => rw [hl] at h; cases h
      | cons _ _ => simp
    · exact Nat.zero_le _
  generalize hl : s.data.toList.drop (fromR s) = l
  have hll : l.length = s.size - fromR s := by rw [← hl, List.length_drop, data_len]
  (repeat (first | refine VC.seq ?_ | refine VC.region ?_ | refine VC.block ?_ | refine VC.label ?_ | refine VC.scope ?_ | refine VO.go (VO.nil ?_) | refine VO.go (VO.ld 0 rfl rfl rfl rfl ?_)))
  refine VC.loop (σ := Nat) (fun i => [(0, .string s), (3, .int .i64 (-(vl (l.take i) : Int))), (4, .int .i64 (fromR s)), (5, .int .i64 ((fromR s + i : Nat) : Int))]) (fun _ => []) (fun i => i ≤ l.length ∧ vl (l.take i) ≤ 9223372036854775808 ∧ ∀ c ∈ l.take i, 48 ≤ c.toNat ∧ c.toNat ≤ 57) (fun i => l.length - i) 0
    ⟨Nat.zero_le _, Nat.zero_le _, fun c hc => by simp at hc⟩ (Sub.cons rfl (Sub.cons rfl (Sub.cons rfl (Sub.cons rfl (Sub.nil _))))) Ent.refl ?_
  rintro i ⟨hi, hv, hall⟩
  (repeat (first | refine VC.seq ?_ | refine VC.region ?_ | refine VC.block ?_ | refine VC.label ?_ | refine VC.scope ?_ | refine VO.go (VO.nil ?_) | refine VO.go (VO.ld 0 rfl rfl rfl rfl ?_)))
  refine VC.condP rfl (fun h1 => VC.skip ?_) (fun h1 => VC.exit ?_)
  · have hi2 : i < l.length := by omega
    obtain ⟨c, hc⟩ : ∃ c, l[i]? = some c := ⟨_, List.getElem?_eq_getElem hi2⟩
    have hcs : s.data.toList[fromR s + i]? = some c := by rw [← hl, List.getElem?_drop] at hc; exact hc
    have htk : l.take (i + 1) = l.take i ++ [c] := by rw [List.take_add_one, hc]; rfl
    have hvs : vl (l.take (i + 1)) = 10 * vl (l.take i) + (c.toNat - 48) := by rw [htk, vl_snoc]
    (repeat (first | refine VC.seq ?_ | refine VC.region ?_ | refine VC.block ?_ | refine VC.label ?_ | refine VC.scope ?_ | refine VO.go (VO.nil ?_) | refine VO.go (VO.ld 0 rfl rfl rfl rfl ?_)))
    refine VO.go (VO.light (light_strAt (fromR s + i) rfl rfl rfl rfl rfl hcs) ?_)
    refine VO.go (VO.callV' (fun Fr w hF hw _ => value_spec Fr w c) rfl ?_)
    have hvn := vn_le c
    have bad : (¬ (48 ≤ c.toNat ∧ c.toNat ≤ 57) ∨ 9223372036854775808 < vl (l.take (i + 1))) → NumSp s 0 := fun hb => ⟨isI_zero, fun n hn e => by
      exfalso
      have hw := (num_word (n := n)).1
      rw [← e, hl] at hw
      rcases hb with hb | hb
      · exact hb (digits_range n.natAbs c (by rw [← hw]; exact List.mem_of_getElem? hc))
      · have h2 := vl_app (l.take (i + 1)) (l.drop (i + 1))
        have h3 : vl l = n.natAbs := by rw [hw, vl_digits]
        rw [List.take_append_drop, h3] at h2
        obtain ⟨n1, n2⟩ := hn
        omega⟩
    have hfin : (vn c ≤ 9 ∧ 10 * vl (l.take i) + vn c ≤ 9223372036854775808) ∨ NumSp s 0 := by
      rcases vn_dec c with ⟨a1, a2, a3, a4⟩ | ⟨a1, a2⟩
      · by_cases hb : 9223372036854775808 < vl (l.take (i + 1))
        · exact .inr (bad (.inr hb))
        · exact .inl ⟨a1, by omega⟩
      · exact .inr (bad (.inl a2))
    (repeat (first | refine VC.seq ?_ | refine VC.region ?_ | refine VC.block ?_ | refine VC.label ?_ | refine VC.scope ?_ | refine VO.go (VO.nil ?_) | refine VO.go (VO.ld 0 rfl rfl rfl rfl ?_)))
    by_cases hd9 : vn c ≤ 9
    · refine VO.go (VO.yes 28 false rfl (decide_eq_false (by omega)) ?_)
      (repeat (first | refine VC.seq ?_ | refine VC.region ?_ | refine VC.block ?_ | refine VC.label ?_ | refine VC.scope ?_ | refine VO.go (VO.nil ?_) | refine VO.go (VO.ld 0 rfl rfl rfl rfl ?_) | refine VO.go (VO.offU rfl rfl rfl ?_)))
      refine VO.go (VO.sub' rfl rfl (by omega) (by omega) ?_)
      refine VO.go (VO.sub' rfl rfl (by omega) (by omega) ?_)
      refine VO.go (VO.light (light_quoT (-(((9223372036854775808 - vn c) / 10 : Nat) : Int)) rfl rfl (by decide) (by
        rw [show ((vn c : Nat) : Int) - 9223372036854775807 - 1 = -((9223372036854775808 - vn c : Nat) : Int) by omega, Int.neg_tdiv, Int.tdiv_eq_ediv_of_nonneg (by omega), i64_in _ (by omega) (by omega)]; omega)) ?_)
      (repeat (first | refine VC.seq ?_ | refine VC.region ?_ | refine VC.block ?_ | refine VC.label ?_ | refine VC.scope ?_ | refine VO.go (VO.nil ?_) | refine VO.go (VO.ld 0 rfl rfl rfl rfl ?_) | refine VO.go (VO.offU rfl rfl rfl ?_)))
      refine VC.condP rfl (fun h2 => ?_) (fun h2 => VC.skip ?_)
      · rcases hfin with hf | hf
        · exfalso; omega
        · (repeat (first | refine VC.seq ?_ | refine VC.region ?_ | refine VC.block ?_ | refine VC.label ?_ | refine VC.scope ?_ | refine VO.go (VO.nil ?_) | refine VO.go (VO.ld 0 rfl rfl rfl rfl ?_)))
          exact VC.ret (Ret.tmp 2 rfl rfl Ent.refl ⟨⟨_, rfl, hf⟩, rfl⟩)
      · have hok : 10 * vl (l.take i) + vn c ≤ 9223372036854775808 := by omega
        rcases vn_dec c with ⟨a1, a2, a3, a4⟩ | ⟨a1, a2⟩
        · (repeat (first | refine VC.seq ?_ | refine VC.region ?_ | refine VC.block ?_ | refine VC.label ?_ | refine VC.scope ?_ | refine VO.go (VO.nil ?_) | refine VO.go (VO.ld 0 rfl rfl rfl rfl ?_)))
          refine VO.go (VO.mul rfl rfl (by omega) (by omega) ?_)
          (repeat (first | refine VC.seq ?_ | refine VC.region ?_ | refine VC.block ?_ | refine VC.label ?_ | refine VC.scope ?_ | refine VO.go (VO.nil ?_) | refine VO.go (VO.ld 0 rfl rfl rfl rfl ?_)))
          refine VO.go (VO.sub' rfl rfl (by omega) (by omega) ?_)
          (repeat (first | refine VC.seq ?_ | refine VC.region ?_ | refine VC.block ?_ | refine VC.label ?_ | refine VC.scope ?_ | refine VO.go (VO.nil ?_) | refine VO.go (VO.ld 0 rfl rfl rfl rfl ?_)))
          refine VO.go (VO.add rfl rfl (by omega) (by omega) ?_)
          (repeat (first | refine VC.seq ?_ | refine VC.region ?_ | refine VC.block ?_ | refine VC.label ?_ | refine VC.scope ?_ | refine VO.go (VO.nil ?_) | refine VO.go (VO.ld 0 rfl rfl rfl rfl ?_)))
          refine ⟨i + 1, ⟨hi2, by rw [hvs]; omega, fun x hx => ?_⟩, by dsimp only; omega, Sub.cons rfl (Sub.int rfl (by rw [hvs]; omega) (Sub.cons rfl (Sub.int rfl (by omega) (Sub.nil _)))), Ent.refl⟩
          rw [htk] at hx
          rcases List.mem_append.1 hx with hx | hx
          · exact hall x hx
          · simp at hx; subst hx; exact ⟨a2, a3⟩
        · omega
    · refine VO.go (VO.yes 28 true rfl (decide_eq_true (by omega)) ?_)
      (repeat (first | refine VC.seq ?_ | refine VC.region ?_ | refine VC.block ?_ | refine VC.label ?_ | refine VC.scope ?_ | refine VO.go (VO.nil ?_) | refine VO.go (VO.ld 0 rfl rfl rfl rfl ?_) | refine VO.go (VO.offU rfl rfl rfl ?_)))
      refine VC.condT rfl ?_
      (repeat (first | refine VC.seq ?_ | refine VC.region ?_ | refine VC.block ?_ | refine VC.label ?_ | refine VC.scope ?_ | refine VO.go (VO.nil ?_) | refine VO.go (VO.ld 0 rfl rfl rfl rfl ?_)))
      have hf : NumSp s 0 := by
        rcases hfin with hf | hf
        · omega
        · exact hf
      exact VC.ret (Ret.tmp 2 rfl rfl Ent.refl ⟨⟨_, rfl, hf⟩, rfl⟩)
  · obtain rfl : i = l.length := by omega
    rw [List.take_length] at hv hall ⊢
    have hwn := wrap_neg hv
    have key : ∀ n, isI n → s = numT n → vl l = n.natAbs ∧ (fromR s = 1 ↔ n < 0) := fun n hn e => by
      have hw := num_word (n := n)
      rw [← e, hl] at hw
      exact ⟨by rw [hw.1, vl_digits], hw.2⟩
    (repeat (first | refine VC.seq ?_ | refine VC.region ?_ | refine VC.block ?_ | refine VC.label ?_ | refine VC.scope ?_ | refine VO.go (VO.nil ?_) | refine VO.go (VO.ld 0 rfl rfl rfl rfl ?_)))
    refine VC.condP rfl (fun h2 => ?_) (fun h2 => VC.skip ?_)
    · (repeat (first | refine VC.seq ?_ | refine VC.region ?_ | refine VC.block ?_ | refine VC.label ?_ | refine VC.scope ?_ | refine VO.go (VO.nil ?_) | refine VO.go (VO.ld 0 rfl rfl rfl rfl ?_)))
      refine VO.go (VO.light (light_negI _ rfl rfl) ?_)
      (repeat (first | refine VC.seq ?_ | refine VC.region ?_ | refine VC.block ?_ | refine VC.label ?_ | refine VC.scope ?_ | refine VO.go (VO.nil ?_) | refine VO.go (VO.ld 0 rfl rfl rfl rfl ?_)))
      refine VC.ret (Ret.tmp 2 rfl rfl Ent.refl ⟨⟨_, rfl, hwn.1, fun n hn e => ?_⟩, rfl⟩)
      obtain ⟨k1, k2⟩ := key n hn e
      obtain ⟨n1, n2⟩ := hn
      have : ¬ n < 0 := fun h => by have := k2.2 h; omega
      rw [hwn.2 (by omega)]; omega
    · (repeat (first | refine VC.seq ?_ | refine VC.region ?_ | refine VC.block ?_ | refine VC.label ?_ | refine VC.scope ?_ | refine VO.go (VO.nil ?_) | refine VO.go (VO.ld 0 rfl rfl rfl rfl ?_)))
      refine VC.ret (Ret.tmp 2 rfl rfl Ent.refl ⟨⟨_, rfl, ⟨by omega, by omega⟩, fun n hn e => ?_⟩, rfl⟩)
      obtain ⟨k1, k2⟩ := key n hn e
      have hf01 : fromR s ≤ 1 := by unfold fromR; split <;> omega
      have : n < 0 := k2.1 (by omega)
      omega

/-! ### A text, read -/
def tx : List UInt8 → List UInt8
  | a :: b :: r => UInt8.ofNat (16 * vn a + vn b) :: tx r
  | _ => []
theorem tx_len : ∀ l : List UInt8, 2 * (tx l).length ≤ l.length
  | [] => Nat.le_refl _
  | [_] => by simp [tx]
  | a :: b :: r => by have := tx_len r; simp only [tx, List.length_cons]; omega
theorem tx_enc : ∀ l : List UInt8, tx (encB l) = l
  | [] => rfl
  | b :: l => by
    have hb := b.toNat_lt
    have e : encB (b :: l) = dig (b.toNat / 16) :: dig (b.toNat % 16) :: encB l := rfl
    rw [e, tx, tx_enc l, vn_of (i := b.toNat / 16) (by omega) rfl, vn_of (i := b.toNat % 16) (by omega) rfl, show 16 * (b.toNat / 16) + b.toNat % 16 = b.toNat by omega]
    simp
def txT (w : ByteArray) : ByteArray := toB (tx (w.data.toList.drop 1))
theorem txT_enc (t : ByteArray) : txT (encT t) = t := by
  unfold txT; rw [enc_data]; show toB (tx (encB t.data.toList)) = t; rw [tx_enc, toB_data]
theorem txT_len (w : ByteArray) : 2 * (txT w).size ≤ w.size := by
  unfold txT; rw [toB_size]
  have := tx_len (w.data.toList.drop 1)
  rw [List.length_drop, data_len] at this; omega
def byC (c : UInt8) : List Value := [.int .u8 (c.toNat : Int)]
theorem flat_by (l : List UInt8) : flat byC l = l.map fun c => Value.int .u8 (c.toNat : Int) := by
  induction l with
  | nil => rfl
  | cons x l ih => rw [flat_cons, ih]; rfl
theorem u8_wrap (n : Nat) : IntKind.u8.wrap (n : Int) = ((UInt8.ofNat n).toNat : Int) := by
  rw [UInt8.toNat_ofNat']
  simp [IntKind.wrap, IntKind.bits, IntKind.signed]

set_option maxRecDepth 100000 in
set_option maxHeartbeats 1000000 in
theorem rtext_spec (Fr : Nat → Prop) (w : World) (s : ByteArray) (hs : s.size ≤ 1000000) : Tri Tryd.prog 35 [.string s] Fr w [] (fun v L => v = .string (txT s) ∧ L = []) := by
  unfold txT
  generalize hl : s.data.toList.drop 1 = l
  have hll : l.length = s.size - 1 := by rw [← hl, List.length_drop, data_len]
  refine Tri.of 29 Tryd.func35 rfl (by kernel_rfl) tabOk rfl rfl ?_
  (repeat (first | refine VC.seq ?_ | refine VC.region ?_ | refine VC.block ?_ | refine VC.label ?_ | refine VC.scope ?_ | refine VO.go (VO.nil ?_) | refine VO.go (VO.ld 0 rfl rfl rfl rfl ?_)))
  refine VC.loop (σ := List UInt8 × Option Addr × Nat) (fun x => [(0, .string s), (3, .slice x.2.1 x.1.length x.2.2), (4, .int .i64 ((1 + 2 * x.1.length : Nat) : Int))]) (fun x => [slH 5 1 x.2.1 x.1.length x.2.2 (flat byC x.1)]) (fun x => 2 * x.1.length ≤ l.length ∧ tx l = x.1 ++ tx (l.drop (2 * x.1.length))) (fun x => l.length - 2 * x.1.length) ([], none, 0)
    ⟨Nat.zero_le _, rfl⟩ (Sub.cons rfl (Sub.cons rfl (Sub.cons rfl (Sub.nil _)))) (Imp.slNil Imp.nil).ent ?_
  rintro ⟨acc, a, c⟩ ⟨hle, hJ⟩
  dsimp only at hle hJ ⊢
  (repeat (first | refine VC.seq ?_ | refine VC.region ?_ | refine VC.block ?_ | refine VC.label ?_ | refine VC.scope ?_ | refine VO.go (VO.nil ?_) | refine VO.go (VO.ld 0 rfl rfl rfl rfl ?_)))
  refine VO.go (VO.add rfl rfl (by omega) (by omega) ?_)
  (repeat (first | refine VC.seq ?_ | refine VC.region ?_ | refine VC.block ?_ | refine VC.label ?_ | refine VC.scope ?_ | refine VO.go (VO.nil ?_) | refine VO.go (VO.ld 0 rfl rfl rfl rfl ?_)))
  refine VC.condP rfl (fun h1 => VC.skip ?_) (fun h1 => VC.exit ?_)
  · have hi2 : 2 * acc.length + 1 < l.length := by omega
    obtain ⟨x, hx⟩ : ∃ x, l[2 * acc.length]? = some x := ⟨_, List.getElem?_eq_getElem (by omega)⟩
    obtain ⟨y, hy⟩ : ∃ y, l[2 * acc.length + 1]? = some y := ⟨_, List.getElem?_eq_getElem hi2⟩
    have hxs : s.data.toList[1 + 2 * acc.length]? = some x := by rw [← hl, List.getElem?_drop] at hx; exact hx
    have hys : s.data.toList[1 + 2 * acc.length + 1]? = some y := by rw [← hl, List.getElem?_drop] at hy; rw [Nat.add_assoc]; exact hy
    have hdr : l.drop (2 * acc.length) = x :: y :: l.drop (2 * acc.length + 2) := by
      obtain ⟨g1, g2⟩ := List.getElem?_eq_some_iff.1 hx
      obtain ⟨g3, g4⟩ := List.getElem?_eq_some_iff.1 hy
      rw [List.drop_eq_getElem_cons g1, g2, List.drop_eq_getElem_cons g3, g4]
    have v1 := vn_le x
    have v2 := vn_le y
    refine VC.seq (VC.block (VC.draw (ts 0 4 (ts 6 4 (.only 4 (.take 5 (.only 10 (ts 11 2 (.only 13 (.only 14 (.take 15 .nil))))))))) (by kernel_rfl) (by decide +kernel) ?_))
    (repeat (first | refine VA.go (VA.nil ?_) | refine VA.go (VA.ld 0 rfl rfl rfl rfl rfl ?_) | refine VA.go (VA.offU rfl rfl rfl rfl ?_)))
    refine VA.go (VA.light rfl (light_strAt (1 + 2 * acc.length) rfl rfl rfl rfl rfl hxs) ?_)
    (repeat (first | refine VA.go (VA.nil ?_) | refine VA.go (VA.ld 0 rfl rfl rfl rfl rfl ?_) | refine VA.go (VA.offU rfl rfl rfl rfl ?_)))
    refine VA.go (VA.add rfl rfl rfl (by omega) (by omega) ?_)
    refine VA.go (VA.light rfl (light_strAt (1 + 2 * acc.length + 1) rfl rfl rfl rfl (by omega) hys) ?_)
    refine VA.go (VA.callR (fun Fr w hF hs hS => value_spec Fr w x) rfl rfl (by (try refine Pd.st ?_); (repeat (first | exact Pd.nil | exact Pd.fnil | refine Pd.inner ?_ | refine Pd.skip (by decide +kernel) ?_ | refine Pd.fcons (RdL.one 0 rfl rfl) ?_ | refine Pd.fcons (RdL.many 0 rfl rfl) ?_ | refine Pd.cons (RdL.one 0 rfl rfl) ?_ | refine Pd.cons (RdL.many 0 rfl rfl) ?_ | refine Pd.fconsM (MpL.one 0 rfl) ?_ | refine Pd.consM (MpL.one 0 rfl) ?_))) ?_)
    refine VA.go (VA.arith (((16 * vn x : Nat)) : Int) rfl rfl rfl (by show IntKind.i64.wrap _ = _; rw [i64_in _ (by omega) (by omega)]; omega) ?_)
    refine VA.go (VA.callR (fun Fr w hF hs hS => value_spec Fr w y) rfl rfl (by (try refine Pd.st ?_); (repeat (first | exact Pd.nil | exact Pd.fnil | refine Pd.inner ?_ | refine Pd.skip (by decide +kernel) ?_ | refine Pd.fcons (RdL.one 0 rfl rfl) ?_ | refine Pd.fcons (RdL.many 0 rfl rfl) ?_ | refine Pd.cons (RdL.one 0 rfl rfl) ?_ | refine Pd.cons (RdL.many 0 rfl rfl) ?_ | refine Pd.fconsM (MpL.one 0 rfl) ?_ | refine Pd.consM (MpL.one 0 rfl) ?_))) ?_)
    refine VA.go (VA.arith (((16 * vn x + vn y : Nat)) : Int) rfl rfl rfl (by show IntKind.i64.wrap _ = _; rw [i64_in _ (by omega) (by omega)]; omega) ?_)
    refine VA.go (VA.light rfl (light_conv ((UInt8.ofNat (16 * vn x + vn y)).toNat : Int) rfl rfl rfl rfl rfl (u8_wrap _)) ?_)
    generalize hz : UInt8.ofNat (16 * vn x + vn y) = z
    refine VA.go (VA.opP (OpT.buildSlice (n := 1) (pv := [(0, .int .u8 (z.toNat : Int))]) (cells := byC z) rfl rfl rfl rfl (by decide) rfl) rfl ?_ ?_)
    · rintro _ _ ⟨nb, rfl, rfl⟩
      exact (by (try refine Pd.st ?_); (repeat (first | exact Pd.nil | exact Pd.fnil | refine Pd.inner ?_ | refine Pd.skip (by decide +kernel) ?_ | refine Pd.fcons (RdL.one 0 rfl rfl) ?_ | refine Pd.fcons (RdL.one 1 rfl rfl) ?_ | refine Pd.fcons (RdL.many 0 rfl rfl) ?_ | refine Pd.fcons (RdL.many 1 rfl rfl) ?_ | refine Pd.cons (RdL.one 0 rfl rfl) ?_ | refine Pd.cons (RdL.one 1 rfl rfl) ?_ | refine Pd.cons (RdL.many 0 rfl rfl) ?_ | refine Pd.cons (RdL.many 1 rfl rfl) ?_ | refine Pd.fconsM (MpL.one 0 rfl) ?_ | refine Pd.fconsM (MpL.one 1 rfl) ?_ | refine Pd.consM (MpL.one 0 rfl) ?_ | refine Pd.consM (MpL.one 1 rfl) ?_)))
    rintro _ _ ⟨nb, rfl, rfl⟩
    refine VA.go (VA.opP (OpT.append (m := 1) (news := byC z) 1 rfl rfl rfl rfl rfl rfl rfl (RdRow.pt 0 rfl rfl rfl) rfl (by show (acc.length + 1) * 1 ≤ _; omega) (by omega)) rfl ?_ ?_)
    · rintro _ _ ⟨a2, c2, rfl, hc2, rfl⟩
      exact (by (try refine Pd.st ?_); (repeat (first | exact Pd.nil | exact Pd.fnil | refine Pd.inner ?_ | refine Pd.skip (by decide +kernel) ?_ | refine Pd.fcons (RdL.one 0 rfl rfl) ?_ | refine Pd.fcons (RdL.one 1 rfl rfl) ?_ | refine Pd.fcons (RdL.many 0 rfl rfl) ?_ | refine Pd.fcons (RdL.many 1 rfl rfl) ?_ | refine Pd.cons (RdL.one 0 rfl rfl) ?_ | refine Pd.cons (RdL.one 1 rfl rfl) ?_ | refine Pd.cons (RdL.many 0 rfl rfl) ?_ | refine Pd.cons (RdL.many 1 rfl rfl) ?_ | refine Pd.fconsM (MpL.one 0 rfl) ?_ | refine Pd.fconsM (MpL.one 1 rfl) ?_ | refine Pd.consM (MpL.one 0 rfl) ?_ | refine Pd.consM (MpL.one 1 rfl) ?_)))
    rintro _ _ ⟨a2, c2, rfl, hc2, rfl⟩
    (repeat (first | refine VA.go (VA.nil ?_) | refine VA.go (VA.ld 0 rfl rfl rfl rfl rfl ?_) | refine VA.go (VA.offU rfl rfl rfl rfl ?_)))
    (repeat (first | refine VC.seq ?_ | refine VC.region ?_ | refine VC.block ?_ | refine VC.label ?_ | refine VC.scope ?_ | refine VO.go (VO.nil ?_) | refine VO.go (VO.ld 0 rfl rfl rfl rfl ?_)))
    refine VO.go (VO.add rfl rfl (by omega) (by omega) ?_)
    (repeat (first | refine VC.seq ?_ | refine VC.region ?_ | refine VC.block ?_ | refine VC.label ?_ | refine VC.scope ?_ | refine VO.go (VO.nil ?_) | refine VO.go (VO.ld 0 rfl rfl rfl rfl ?_)))
    have hL : (acc ++ [z]).length = acc.length + 1 := by simp
    have hF : flat byC (acc ++ [z]) = flat byC acc ++ byC z := by simp [flat_append, flat_cons, flat_nil]
    refine ⟨(acc ++ [z], a2, c2), ⟨by dsimp only; rw [hL]; omega, ?_⟩, by dsimp only; rw [hL]; omega, Sub.cons rfl (Sub.cons (by rw [hL]; rfl) (Sub.int rfl (by rw [hL]; omega) (Sub.nil _))), ?_⟩
    · dsimp only
      rw [hL, hJ, hdr, tx, hz, List.append_assoc]; rfl
    · dsimp only
      rw [hL, hF]
      exact (Imp.pick 0 rfl Imp.nil).ent
  · have hend : tx (l.drop (2 * acc.length)) = [] := by
      cases hd : l.drop (2 * acc.length) with
      | nil => rfl
      | cons x r =>
        cases r with
        | nil => rfl
        | cons y r => have := congrArg List.length hd; rw [List.length_drop] at this; simp at this; omega
    rw [hend, List.append_nil] at hJ
    rw [hJ]
    refine VC.opn 0 rfl (HOpn.sl _ _ _ _ _ _) ?_
    rintro (_ | ⟨sb, rest⟩) ⟨hx1, hx2, hx3⟩
    · obtain ⟨rfl, h0, rfl, _⟩ := hx3
      obtain rfl : acc = [] := List.eq_nil_of_length_eq_zero h0
      dsimp only
      (repeat (first | refine VC.seq ?_ | refine VC.region ?_ | refine VC.block ?_ | refine VC.label ?_ | refine VC.scope ?_ | refine VO.go (VO.nil ?_) | refine VO.go (VO.ld 0 rfl rfl rfl rfl ?_)))
      refine VO.go (VO.light (light_strNil rfl rfl rfl rfl rfl rfl rfl) ?_)
      (repeat (first | refine VC.seq ?_ | refine VC.region ?_ | refine VC.block ?_ | refine VC.label ?_ | refine VC.scope ?_ | refine VO.go (VO.nil ?_) | refine VO.go (VO.ld 0 rfl rfl rfl rfl ?_)))
      exact VC.ret (Ret.tmp 2 rfl rfl Imp.nil.ent ⟨rfl, rfl⟩)
    · obtain ⟨rfl, hx4⟩ := hx3
      dsimp only
      (repeat (first | refine VC.seq ?_ | refine VC.region ?_ | refine VC.block ?_ | refine VC.label ?_ | refine VC.scope ?_ | refine VO.go (VO.nil ?_) | refine VO.go (VO.ld 0 rfl rfl rfl rfl ?_)))
      refine VO.go (VO.op1 (OpT.str (bs := acc) 0 rfl rfl rfl rfl rfl rfl rfl rfl rfl (by rw [flat_by, List.take_left' (by simp)])) ?_)
      (repeat (first | refine VC.seq ?_ | refine VC.region ?_ | refine VC.block ?_ | refine VC.label ?_ | refine VC.scope ?_ | refine VO.go (VO.nil ?_) | refine VO.go (VO.ld 0 rfl rfl rfl rfl ?_)))
      exact VC.ret (Ret.tmp 2 rfl rfl Imp.nil.ent ⟨rfl, rfl⟩)
end Go.Proofs.YtceobomlmdmicaaDoor.Scr
namespace Go.Proofs.YtceobomlmdmicaaDoor.Scr
open Go Go.Proofs.YtceobomlmdmicaaDoor.Vg Go.Proofs.YtceobomlmdmicaaDoor.T Go.Proofs.YtceobomlmdmicaaDoor.Api Go.Proofs.YtceobomlmdmicaaDoor.LibC
set_option linter.unusedSimpArgs false
set_option linter.unusedVariables false
attribute [local irreducible] VO VC VA

/-! ### What stands between blanks -/
def joinW : List ByteArray → List UInt8
  | [] => []
  | w :: ws => w.data.toList ++ ws.flatMap fun w => 32 :: w.data.toList
theorem joinW_snoc (W : List ByteArray) (w : ByteArray) (t : List UInt8) : joinW (W ++ [toB (w.data.toList ++ t)]) = joinW (W ++ [w]) ++ t := by
  cases W with
  | nil => simp [joinW, toB]
  | cons x W => simp [joinW, toB]
theorem joinW_new (W : List ByteArray) (w : ByteArray) : joinW (W ++ [w] ++ [nilB]) = joinW (W ++ [w]) ++ [32] := by
  cases W with
  | nil => simp [joinW, nilB]
  | cons x W => simp [joinW, nilB]
theorem splitW_of {W : List ByteArray} {s : ByteArray} (hne : W ≠ []) (hj : joinW W = s.data.toList) (hb : ∀ w ∈ W, (32 : UInt8) ∉ w.data.toList) : splitW s = W := by
  cases W with
  | nil => exact (hne rfl).elim
  | cons w ws =>
    rw [← toB_data s, ← hj]
    exact splitW_words (hb w (by simp)) fun x hx => hb x (by simp [hx])
theorem flat_sC (l : List ByteArray) : flat sC l = l.map Value.string := by
  induction l with
  | nil => rfl
  | cons x l ih => rw [flat_cons, ih]; rfl
theorem ext_one {s : ByteArray} {i : Nat} {c : UInt8} (hc : s.data.toList[i]? = some c) : s.extract i (i + 1) = toB [c] := by
  obtain ⟨h1, h2⟩ := List.getElem?_eq_some_iff.1 hc
  apply ByteArray.ext
  rw [ByteArray.data_extract]
  apply Array.toList_inj.1
  rw [Array.toList_extract]
  simp only [List.extract, toB]
  rw [show i + 1 - i = 1 by omega, List.drop_eq_getElem_cons h1, h2]
  rfl

set_option maxRecDepth 100000 in
set_option maxHeartbeats 1000000 in
theorem rsplit_spec (Fr : Nat → Prop) (w : World) (s : ByteArray) (hs : s.size ≤ 1000000) : Tri Tryd.prog 33 [.string s] Fr w []
    (fun v L => ∃ a c, v = .slice a (splitW s).length c ∧ L = [slH 9 1 a (splitW s).length c (flat sC (splitW s))]) := by
  refine Tri.of 37 Tryd.func33 rfl (by kernel_rfl) tabOk rfl rfl ?_
  (repeat (first | refine VC.seq ?_ | refine VC.region ?_ | refine VC.block ?_ | refine VC.label ?_ | refine VC.scope ?_ | refine VO.go (VO.nil ?_) | refine VO.go (VO.ld 0 rfl rfl rfl rfl ?_)))
  refine VO.go (VO.buildSlice (n := 1) (pv := [(0, .string ⟨#[]⟩)]) (flat sC [nilB]) rfl rfl rfl rfl (by decide) rfl fun nb => ?_)
  (repeat (first | refine VC.seq ?_ | refine VC.region ?_ | refine VC.block ?_ | refine VC.label ?_ | refine VC.scope ?_ | refine VO.go (VO.nil ?_) | refine VO.go (VO.ld 0 rfl rfl rfl rfl ?_)))
  refine VC.loop (σ := Nat × List ByteArray × ByteArray × Option Addr × Nat) (fun x => [(0, .string s), (3, .slice x.2.2.2.1 (x.2.1.length + 1) x.2.2.2.2), (4, .int .i64 x.1)]) (fun x => [slH 9 1 x.2.2.2.1 (x.2.1.length + 1) x.2.2.2.2 (flat sC (x.2.1 ++ [x.2.2.1]))])
    (fun x => x.1 ≤ s.size ∧ x.2.1.length ≤ x.1 ∧ joinW (x.2.1 ++ [x.2.2.1]) = s.data.toList.take x.1 ∧ ∀ w ∈ x.2.1 ++ [x.2.2.1], (32 : UInt8) ∉ w.data.toList) (fun x => s.size - x.1) (0, [], nilB, some ⟨nb, 0, none⟩, 1)
    ⟨Nat.zero_le _, Nat.le_refl _, rfl, fun w hw => by simp at hw; subst hw; simp [nilB]⟩ (Sub.cons rfl (Sub.cons rfl (Sub.cons rfl (Sub.nil _)))) (Imp.sl (rest := []) rfl (Nat.le_refl _) rfl (Imp.pick 0 rfl Imp.nil)).ent ?_
  rintro ⟨i, W, u, a, cap⟩ ⟨hi, hWi, hj, hb⟩
  dsimp only at hi hWi hj hb ⊢
  have hlen : (W ++ [u]).length = W.length + 1 := by simp
  (repeat (first | refine VC.seq ?_ | refine VC.region ?_ | refine VC.block ?_ | refine VC.label ?_ | refine VC.scope ?_ | refine VO.go (VO.nil ?_) | refine VO.go (VO.ld 0 rfl rfl rfl rfl ?_)))
  refine VC.condP rfl (fun h1 => VC.skip ?_) (fun h1 => VC.exit ?_)
  · have hi2 : i < s.size := by omega
    obtain ⟨c, hc⟩ := byte_at hi2
    have htk : s.data.toList.take (i + 1) = s.data.toList.take i ++ [c] := by rw [List.take_add_one, hc]; rfl
    have husz : u.size ≤ i := by
      have := congrArg List.length hj
      rw [List.length_take, data_len] at this
      have h2 : u.size ≤ (joinW (W ++ [u])).length := by
        cases W with
        | nil => simp [joinW, data_len]
        | cons x W => simp [joinW, data_len]; omega
      omega
    (repeat (first | refine VC.seq ?_ | refine VC.region ?_ | refine VC.block ?_ | refine VC.label ?_ | refine VC.scope ?_ | refine VO.go (VO.nil ?_) | refine VO.go (VO.ld 0 rfl rfl rfl rfl ?_)))
    refine VO.go (VO.light (light_strAt i rfl rfl rfl rfl rfl hc) ?_)
    (repeat (first | refine VC.seq ?_ | refine VC.region ?_ | refine VC.block ?_ | refine VC.label ?_ | refine VC.scope ?_ | refine VO.go (VO.nil ?_) | refine VO.go (VO.ld 0 rfl rfl rfl rfl ?_)))
    refine VC.condP rfl (fun h2 => ?_) (fun h2 => ?_)
    · have h2 : c = 32 := u8_eq.1 h2
      subst h2
      (repeat (first | refine VC.seq ?_ | refine VC.region ?_ | refine VC.block ?_ | refine VC.label ?_ | refine VC.scope ?_ | refine VO.go (VO.nil ?_) | refine VO.go (VO.ld 0 rfl rfl rfl rfl ?_)))
      refine VO.go (VO.buildSlice (n := 1) (pv := [(0, .string ⟨#[]⟩)]) (sC nilB) rfl rfl rfl rfl (by decide) rfl fun nb2 => ?_)
      refine VO.go (VO.append (m := 1) (news := sC nilB) 1 rfl rfl rfl rfl rfl rfl rfl (RdRow.pt 0 rfl rfl rfl) rfl (by show (W.length + 1 + 1) * 16 ≤ _; omega) (by omega) fun a2 c2 hc2 => ?_)
      (repeat (first | refine VC.seq ?_ | refine VC.region ?_ | refine VC.block ?_ | refine VC.label ?_ | refine VC.scope ?_ | refine VO.go (VO.nil ?_) | refine VO.go (VO.ld 0 rfl rfl rfl rfl ?_)))
      refine VO.go (VO.add rfl rfl (by omega) (by omega) ?_)
      (repeat (first | refine VC.seq ?_ | refine VC.region ?_ | refine VC.block ?_ | refine VC.label ?_ | refine VC.scope ?_ | refine VO.go (VO.nil ?_) | refine VO.go (VO.ld 0 rfl rfl rfl rfl ?_)))
      refine ⟨(i + 1, W ++ [u], nilB, a2, c2), ⟨hi2, by dsimp only; rw [hlen]; omega, ?_, fun w hw => ?_⟩, by dsimp only; omega, Sub.cons rfl (Sub.cons (by rw [hlen]; rfl) (Sub.cons rfl (Sub.nil _))), ?_⟩
      · dsimp only; rw [joinW_new, hj, htk]
      · dsimp only at hw
        rcases List.mem_append.1 hw with hw | hw
        · exact hb w hw
        · simp at hw; subst hw; simp [nilB]
      · dsimp only
        rw [hlen, show flat sC (W ++ [u] ++ [nilB]) = flat sC (W ++ [u]) ++ sC nilB from flat_append ..]
        exact (Imp.pick 0 rfl Imp.nil).ent
    · have h2 : c ≠ 32 := fun h => h2 (u8_eq.2 h)
      refine VC.opn 0 rfl (HOpn.sl _ _ _ _ _ _) ?_
      rintro (_ | ⟨sb, rest⟩) ⟨hx1, hx2, hx3⟩
      · obtain ⟨_, h0, _⟩ := hx3; omega
      obtain ⟨rfl, hx4⟩ := hx3
      dsimp only
      refine VC.draw (ts 0 17 (.only 17 .nil)) (by kernel_rfl) (by decide +kernel) ?_
      have hcell : (flat sC (W ++ [u]) ++ rest)[0 + W.length * 1]? = some (.string u) := by
        rw [Nat.zero_add, Nat.mul_one, flat_sC, List.getElem?_append_left (by simp)]; simp
      have hset : (flat sC (W ++ [u]) ++ rest).set (0 + W.length * 1) (.string (u ++ toB [c])) = flat sC (W ++ [u ++ toB [c]]) ++ rest := by
        rw [Nat.zero_add, Nat.mul_one, flat_sC, flat_sC, List.set_append_left _ _ (by simp)]; simp
      have huc : u ++ toB [c] = toB (u.data.toList ++ [c]) := by rw [← toB_cat, toB_data]
      (repeat (first | refine VA.go (VA.nil ?_) | refine VA.go (VA.ld 0 rfl rfl rfl rfl rfl ?_) | refine VA.go (VA.offU rfl rfl rfl rfl ?_)))
      refine VA.go (VA.sub' rfl rfl rfl (by omega) (by omega) ?_)
      (repeat (first | refine VA.go (VA.nil ?_) | refine VA.go (VA.ld 0 rfl rfl rfl rfl rfl ?_) | refine VA.go (VA.offU rfl rfl rfl rfl ?_)))
      refine VA.go (VA.sub' rfl rfl rfl (by omega) (by omega) ?_)
      (repeat (first | refine VA.go (VA.nil ?_) | refine VA.go (VA.ld 0 rfl rfl rfl rfl rfl ?_) | refine VA.go (VA.offU rfl rfl rfl rfl ?_)))
      refine VA.go (VA.light rfl (light_idx W.length rfl rfl rfl rfl rfl (by omega) (by omega)) ?_)
      refine VA.go (VA.load rfl rfl rfl (RdL.one 0 rfl hcell) ?_)
      (repeat (first | refine VA.go (VA.nil ?_) | refine VA.go (VA.ld 0 rfl rfl rfl rfl rfl ?_) | refine VA.go (VA.offU rfl rfl rfl rfl ?_)))
      refine VA.go (VA.add rfl rfl rfl (by omega) (by omega) ?_)
      refine VA.go (VA.light rfl (light_subS rfl rfl rfl rfl rfl (by omega) (by omega) (by omega)) ?_)
      rw [show ((i : Nat) : Int).toNat = i from rfl, show (((i : Nat) : Int) + 1).toNat = i + 1 by omega, ext_one hc]
      refine VA.go (VA.light rfl (light_cat rfl rfl (by rw [toB_size]; show _ + 1 ≤ _; omega)) ?_)
      refine VA.go (VA.light rfl (light_idx W.length rfl rfl rfl rfl rfl (by omega) (by omega)) ?_)
      refine VA.go (VA.st 0 rfl rfl rfl rfl rfl (by rw [List.length_append, flat_sC]; simp only [List.length_map, List.length_append, List.length_cons, List.length_nil]; show 0 + W.length * 1 < _; omega) hset rfl (by (try refine Pd.st ?_); (repeat (first | exact Pd.nil | exact Pd.fnil | refine Pd.inner ?_ | refine Pd.skip (by decide +kernel) ?_ | refine Pd.fcons (RdL.one 0 rfl rfl) ?_ | refine Pd.fcons (RdL.many 0 rfl rfl) ?_ | refine Pd.cons (RdL.one 0 rfl rfl) ?_ | refine Pd.cons (RdL.many 0 rfl rfl) ?_ | refine Pd.fconsM (MpL.one 0 rfl) ?_ | refine Pd.consM (MpL.one 0 rfl) ?_))) ?_)
      (repeat (first | refine VA.go (VA.nil ?_) | refine VA.go (VA.ld 0 rfl rfl rfl rfl rfl ?_) | refine VA.go (VA.offU rfl rfl rfl rfl ?_)))
      (repeat (first | refine VC.seq ?_ | refine VC.region ?_ | refine VC.block ?_ | refine VC.label ?_ | refine VC.scope ?_ | refine VO.go (VO.nil ?_) | refine VO.go (VO.ld 0 rfl rfl rfl rfl ?_)))
      refine VO.go (VO.add rfl rfl (by omega) (by omega) ?_)
      (repeat (first | refine VC.seq ?_ | refine VC.region ?_ | refine VC.block ?_ | refine VC.label ?_ | refine VC.scope ?_ | refine VO.go (VO.nil ?_) | refine VO.go (VO.ld 0 rfl rfl rfl rfl ?_)))
      refine ⟨(i + 1, W, u ++ toB [c], some ⟨sb, 0, none⟩, cap), ⟨hi2, by dsimp only; omega, ?_, fun w hw => ?_⟩, by dsimp only; omega, Sub.cons rfl (Sub.cons rfl (Sub.cons rfl (Sub.nil _))), ?_⟩
      · dsimp only; rw [huc, joinW_snoc, hj, htk]
      · dsimp only at hw
        rcases List.mem_append.1 hw with hw | hw
        · exact hb w (List.mem_append.2 (.inl hw))
        · simp only [List.mem_singleton] at hw; subst hw
          rw [huc, toB_list]
          intro hm
          rcases List.mem_append.1 hm with hm | hm
          · exact hb u (by simp) hm
          · simp at hm; exact h2 hm.symm
      · dsimp only
        exact (Imp.sl (by rw [flat_sC]; simp) (by omega) (by rw [← hx4, List.length_append, List.length_append, flat_sC, flat_sC]; simp) (Imp.pick 0 rfl Imp.nil)).ent
  · obtain rfl : i = s.size := by omega
    rw [List.take_of_length_le (by rw [data_len]; omega)] at hj
    have hw := splitW_of (by simp) hj hb
    (repeat (first | refine VC.seq ?_ | refine VC.region ?_ | refine VC.block ?_ | refine VC.label ?_ | refine VC.scope ?_ | refine VO.go (VO.nil ?_) | refine VO.go (VO.ld 0 rfl rfl rfl rfl ?_)))
    exact VC.ret (Ret.tmp 2 rfl rfl Ent.refl ⟨a, cap, by rw [hw, hlen], by rw [hw, hlen]⟩)

/-! ### A step, off its line's words -/
theorem split_line {d : DoM} (hk : isK d.kind = true) : splitW (toB (wordK d.kind.toNat ++ restL d)) = toB (wordK d.kind.toNat) :: argsW d := by
  obtain ⟨k, hk0, hk1, hk2⟩ := isK_nat hk
  have hkn : d.kind.toNat = k := by rw [hk0]; rfl
  rw [hkn]
  have := splitW_words (w0 := toB (wordK k)) (ws := argsW d) (by rw [toB_list]; exact (word_blank k (by omega)).1) (args_blank (.inl rfl) d)
  rw [toB_list, args_rest] at this
  exact this
def nil7 : List ByteArray := List.replicate 7 nilB
def dOf (k : Nat) (a0 a1 a2 a3 a4 : Int) (x y : ByteArray) : DoM := ⟨k, a0, a1, a2, if numK k = 5 then ⟨a3, txT x, txT y, a4⟩ else opZ⟩
theorem numK_zero : numK 0 = 0 := rfl
theorem normD_dOf {k : Nat} (hk : k < 12) {a0 a1 a2 a3 a4 : Int} {x y : ByteArray} (hz : ∀ j, numK k ≤ j → [a0, a1, a2, a3, a4].getD j 0 = 0) : normD (dOf k a0 a1 a2 a3 a4 x y) = dOf k a0 a1 a2 a3 a4 x y := by
  have h0 := hz 0; have h1 := hz 1; have h2 := hz 2; have h3 := hz 3; have h4 := hz 4
  unfold normD dOf
  simp only [Int.toNat_natCast]
  rcases numK_uses k hk with ⟨e1, e2⟩ | ⟨e1, e2⟩ | ⟨e1, e2⟩ | ⟨e1, e2⟩ <;> rw [e1] <;> rw [e2] at h0 h1 h2 h3 h4 ⊢ <;> simp [setU, sA, sB, sCc, sOp, doZ] at h0 h1 h2 h3 h4 ⊢
  · exact ⟨h1.symm, h2.symm⟩
  · exact ⟨h0.symm, h1.symm, h2.symm⟩
theorem dOf_ok {k : Nat} (hk : k < 12) {a0 a1 a2 a3 a4 : Int} {x y : ByteArray} (hx : x.size ≤ 2000) (hy : y.size ≤ 2000) (h : ∀ j, isI ([a0, a1, a2, a3, a4].getD j 0)) : (dOf k a0 a1 a2 a3 a4 x y).Ok := by
  have z : nilB.size ≤ 1000 := by decide
  have t1 := txT_len x
  have t2 := txT_len y
  have hkI : isI (k : Int) := ⟨by omega, by omega⟩
  by_cases h5 : numK k = 5
  · refine ⟨hkI, h 0, h 1, h 2, ?_, ?_, ?_, ?_⟩ <;> simp only [dOf, if_pos h5]
    · exact h 3
    · exact h 4
    · omega
    · omega
  · refine ⟨hkI, h 0, h 1, h 2, ?_, ?_, ?_, ?_⟩ <;> simp only [dOf, if_neg h5]
    · exact isI_zero
    · exact isI_zero
    · exact z
    · exact z
theorem step_plain {s : ByteArray} {W : List ByteArray} (hW : W = splitW s ++ nil7) {k : Nat} (hk : k = kindTo (W.getD 0 nilB) 11) {a0 a1 a2 a3 a4 : Int}
    (hn : ∀ j, j < numK k → NumSp (W.getD (1 + j) nilB) ([a0, a1, a2, a3, a4].getD j 0)) (hz : ∀ j, numK k ≤ j → [a0, a1, a2, a3, a4].getD j 0 = 0) (hs : s.size ≤ 2000) :
    (dOf k a0 a1 a2 a3 a4 (W.getD 6 nilB) (W.getD 7 nilB)).Ok ∧ (lineL (dOf k a0 a1 a2 a3 a4 (W.getD 6 nilB) (W.getD 7 nilB)) = s.data.toList ++ [10] → lineR s = some (dOf k a0 a1 a2 a3 a4 (W.getD 6 nilB) (W.getD 7 nilB))) ∧
    (lineL (dOf k a0 a1 a2 a3 a4 (W.getD 6 nilB) (W.getD 7 nilB)) ≠ s.data.toList ++ [10] → lineR s = none) := by
  have hk12 : k < 12 := by have := kindTo_le (W.getD 0 nilB) 11; omega
  have hsz : ∀ j, (W.getD j nilB).size ≤ 2000 := fun j => by
    rw [List.getD_eq_getElem?_getD]
    cases hg : W[j]? with
    | none => decide
    | some x =>
      have hm := List.mem_of_getElem? hg
      rw [hW] at hm
      rcases List.mem_append.1 hm with hm | hm
      · have := splitW_size hm; show x.size ≤ 2000; omega
      · obtain rfl := (List.mem_replicate.1 hm).2; decide
  have hok : (dOf k a0 a1 a2 a3 a4 (W.getD 6 nilB) (W.getD 7 nilB)).Ok := dOf_ok hk12 (hsz 6) (hsz 7) fun j => by
    by_cases hj : j < numK k
    · exact (hn j hj).1
    · rw [hz j (by omega)]; exact isI_zero
  refine ⟨hok, fun h => ?_, fun h => ?_⟩
  · have hik : isK (dOf k a0 a1 a2 a3 a4 (W.getD 6 nilB) (W.getD 7 nilB)).kind = true := by
      cases hh : isK (dOf k a0 a1 a2 a3 a4 (W.getD 6 nilB) (W.getD 7 nilB)).kind with
      | true => rfl
      | false => rw [line_nil.2 hh] at h; simp at h
    have e := lineR_fwd hok hik
    unfold lineL at h
    rw [hik, if_pos rfl] at h
    rw [List.append_cancel_right h, toB_data, normD_dOf hk12 hz] at e
    exact e
  · cases hr : lineR s with
    | none => rfl
    | some d =>
      exfalso
      obtain ⟨b1, b2⟩ := lineR_back hr
      have hdo := b2 hs
      have hik : isK d.kind = true := by
        cases hh : isK d.kind with
        | true => rfl
        | false => rw [line_nil.2 hh] at b1; simp at b1
      obtain ⟨k', hk0, hk1, hk2⟩ := isK_nat hik
      have hkn : d.kind.toNat = k' := by rw [hk0]; rfl
      have e1 : wordK d.kind.toNat ++ restL d = s.data.toList := by
        unfold lineL at b1; rw [hik, if_pos rfl] at b1; exact List.append_cancel_right b1
      have hsp := split_line hik
      have hfw := lineR_fwd hdo hik
      rw [e1, toB_data] at hsp hfw
      rw [hr] at hfw
      have hnd : normD d = d := (Option.some.inj hfw).symm
      rw [hkn] at hsp
      rw [hsp] at hW
      have hkk : k = k' := by rw [hk, hW]; exact kindTo_word k' (by omega) hk1
      subst hkk
      apply h
      rw [← b1]
      congr 1
      unfold normD at hnd
      unfold argsW at hW
      rw [hkn] at hW hnd
      have n0 := hn 0; have n1 := hn 1; have n2 := hn 2; have n3 := hn 3; have n4 := hn 4
      have z0 := hz 0; have z1 := hz 1; have z2 := hz 2
      unfold dOf
      rcases numK_uses k hk12 with ⟨u1, u2⟩ | ⟨u1, u2⟩ | ⟨u1, u2⟩ | ⟨u1, u2⟩ <;> rw [u1] at hW hnd <;> rw [u2] at n0 n1 n2 n3 n4 z0 z1 z2 ⊢ <;> simp [argU, nil7] at hW <;> subst hW <;> simp [setU, sA, sB, sCc, sOp, doZ] at hnd n0 n1 n2 n3 n4 z0 z1 z2 ⊢
      · rw [n0.2 _ hdo.a rfl, n1.2 _ hdo.b rfl, n2.2 _ hdo.c rfl, n3.2 _ hdo.opk rfl, n4.2 _ hdo.opv rfl, txT_enc, txT_enc, ← hk0]
      · refine Eq.trans ?_ hnd
        rw [n0.2 _ hdo.a rfl, n1.2 _ hdo.b rfl, n2.2 _ hdo.c rfl, hk0]
      · refine Eq.trans ?_ hnd
        rw [n0.2 _ hdo.a rfl, z1, z2, hk0]
      · refine Eq.trans ?_ hnd
        rw [z0, z1, z2, hk0]
end Go.Proofs.YtceobomlmdmicaaDoor.Scr
namespace Go.Proofs.YtceobomlmdmicaaDoor.Scr
open Go Go.Proofs.YtceobomlmdmicaaDoor.Vg Go.Proofs.YtceobomlmdmicaaDoor.T Go.Proofs.YtceobomlmdmicaaDoor.Api Go.Proofs.YtceobomlmdmicaaDoor.LibC
set_option linter.unusedSimpArgs false
set_option linter.unusedVariables false
attribute [local irreducible] VO VC VA

theorem words_le (s : ByteArray) : (splitW s).length ≤ s.size + 1 := by
  obtain ⟨w0, ws, h1, h2⟩ := splitW_join s
  have : ∀ ws : List ByteArray, ws.length ≤ (ws.flatMap (fun w => 32 :: w.data.toList)).length := fun ws => by
    induction ws with
    | nil => exact Nat.le_refl _
    | cons x ws ih => rw [List.flatMap_cons, List.length_append, List.length_cons, List.length_cons]; omega
  have h3 := congrArg List.length h2
  rw [data_len, List.length_append] at h3
  have := this ws
  rw [h1, List.length_cons]; omega
theorem words_ne (s : ByteArray) : 1 ≤ (splitW s).length := by
  obtain ⟨w0, ws, h1, h2⟩ := splitW_join s
  rw [h1]; simp
/-- An array of five numbers, so far as it is filled. -/
def arrC (ns : List Int) : List Value := ns.map intC ++ List.replicate (5 - ns.length) (intC 0)
theorem arrC_len {ns : List Int} (h : ns.length ≤ 5) : (arrC ns).length = 5 := by simp [arrC]; omega
theorem arrC_set {ns : List Int} (n : Int) (h : ns.length < 5) : (arrC ns).set (0 + ns.length * 1) (intC n) = arrC (ns ++ [n]) := by
  unfold arrC
  rw [Nat.zero_add, Nat.mul_one]
  obtain ⟨m, hm⟩ : ∃ m, 5 - ns.length = m + 1 := ⟨4 - ns.length, by omega⟩
  rw [hm, List.replicate_succ, List.set_append_right _ _ (by simp)]
  simp
  omega
theorem arrC_five {ns : List Int} (h : ns.length ≤ 5) : ∃ a0 a1 a2 a3 a4 : Int, arrC ns = [intC a0, intC a1, intC a2, intC a3, intC a4] ∧ (∀ j n, ns[j]? = some n → [a0, a1, a2, a3, a4].getD j 0 = n) ∧ ∀ j, ns.length ≤ j → [a0, a1, a2, a3, a4].getD j 0 = 0 := by
  have getD_ge : ∀ (l : List Int) (j : Nat), l.length ≤ j → l.getD j 0 = 0 := fun l j hj => by rw [List.getD_eq_getElem?_getD, List.getElem?_eq_none hj]; rfl
  match ns, h with
  | [], _ => exact ⟨0, 0, 0, 0, 0, rfl, fun j n h => by simp at h, fun j _ => by match j with | 0 => rfl | 1 => rfl | 2 => rfl | 3 => rfl | 4 => rfl | j + 5 => exact getD_ge _ _ (by simp)⟩
  | [a], _ => exact ⟨a, 0, 0, 0, 0, rfl, fun j n h => by match j with | 0 => simpa using h | j + 1 => simp at h, fun j hj => by match j with | 0 => simp at hj | 1 => rfl | 2 => rfl | 3 => rfl | 4 => rfl | j + 5 => exact getD_ge _ _ (by simp)⟩
  | [a, b], _ => exact ⟨a, b, 0, 0, 0, rfl, fun j n h => by match j with | 0 => simpa using h | 1 => simpa using h | j + 2 => simp at h, fun j hj => by match j with | 0 => simp at hj | 1 => simp at hj | 2 => rfl | 3 => rfl | 4 => rfl | j + 5 => exact getD_ge _ _ (by simp)⟩
  | [a, b, c], _ => exact ⟨a, b, c, 0, 0, rfl, fun j n h => by match j with | 0 => simpa using h | 1 => simpa using h | 2 => simpa using h | j + 3 => simp at h, fun j hj => by match j with | 0 => simp at hj | 1 => simp at hj | 2 => simp at hj | 3 => rfl | 4 => rfl | j + 5 => exact getD_ge _ _ (by simp)⟩
  | [a, b, c, d], _ => exact ⟨a, b, c, d, 0, rfl, fun j n h => by match j with | 0 => simpa using h | 1 => simpa using h | 2 => simpa using h | 3 => simpa using h | j + 4 => simp at h, fun j hj => by match j with | 0 => simp at hj | 1 => simp at hj | 2 => simp at hj | 3 => simp at hj | 4 => rfl | j + 5 => exact getD_ge _ _ (by simp)⟩
  | [a, b, c, d, e], _ => exact ⟨a, b, c, d, e, rfl, fun j n h => by match j with | 0 => simpa using h | 1 => simpa using h | 2 => simpa using h | 3 => simpa using h | 4 => simpa using h | j + 5 => simp at h, fun j hj => by match j with | 0 => simp at hj | 1 => simp at hj | 2 => simp at hj | 3 => simp at hj | 4 => simp at hj | j + 5 => exact getD_ge _ _ (by simp)⟩
  | a :: b :: c :: d :: e :: f :: r, h => exact absurd h (by simp)

set_option maxRecDepth 100000 in
set_option maxHeartbeats 4000000 in
theorem step_spec (Fr : Nat → Prop) (w : World) (s : ByteArray) (hs : s.size ≤ 2000) : Tri Tryd.prog 19 [.string s] Fr w []
    (fun v L => (∃ d b, v = .tuple #[.agg (doC d).toArray, .bool b] ∧ ((b = true ∧ lineR s = some d) ∨ (b = false ∧ lineR s = none))) ∧ L = []) := by
  have hwl := words_le s
  have hw1 := words_ne s
  obtain ⟨W, hW⟩ : ∃ W, W = splitW s ++ nil7 := ⟨_, rfl⟩
  have hWl : W.length = (splitW s).length + 7 := by rw [hW]; simp [nil7]
  obtain ⟨k, hk⟩ : ∃ k, k = kindTo (W.getD 0 nilB) 11 := ⟨_, rfl⟩
  have hk12 : k < 12 := by have := kindTo_le (W.getD 0 nilB) 11; omega
  have hWsz : ∀ j, (W.getD j nilB).size ≤ 1000000 := fun j => by
    rw [List.getD_eq_getElem?_getD]
    cases hg : W[j]? with
    | none => decide
    | some x =>
      have hm := List.mem_of_getElem? hg
      rw [hW] at hm
      rcases List.mem_append.1 hm with hm | hm
      · have := splitW_size hm; show x.size ≤ 1000000; omega
      · obtain rfl := (List.mem_replicate.1 hm).2; decide
  refine Tri.of 85 Tryd.func19 rfl (by kernel_rfl) tabOk rfl rfl ?_
  refine VC.seq (VC.region (VO.go (VO.alloc rfl fun rb => ?_)))
  (repeat (first | refine VC.seq ?_ | refine VC.region ?_ | refine VC.block ?_ | refine VC.label ?_ | refine VC.scope ?_ | refine VO.go (VO.nil ?_) | refine VO.go (VO.ld 0 rfl rfl rfl rfl ?_)))
  refine VO.go (VO.call (Lc := []) (fun Fr w hF hw _ => rsplit_spec Fr w s (by omega)) rfl rfl ?_)
  rintro _ _ ⟨a0, c0, rfl, rfl⟩
  (repeat (first | refine VC.seq ?_ | refine VC.region ?_ | refine VC.block ?_ | refine VC.label ?_ | refine VC.scope ?_ | refine VO.go (VO.nil ?_) | refine VO.go (VO.ld 0 rfl rfl rfl rfl ?_)))
  refine VO.go (VO.buildSlice (n := 7) (pv := [(0, .string ⟨#[]⟩), (1, .string ⟨#[]⟩), (2, .string ⟨#[]⟩), (3, .string ⟨#[]⟩), (4, .string ⟨#[]⟩), (5, .string ⟨#[]⟩), (6, .string ⟨#[]⟩)]) (flat sC nil7) rfl rfl rfl rfl (by decide) (by kernel_rfl) fun nb => ?_)
  refine VO.go (VO.append (m := 7) (news := flat sC nil7) 1 rfl rfl rfl rfl rfl rfl rfl (RdRow.pt 0 rfl rfl rfl) rfl (by show ((splitW s).length + 7) * 16 ≤ _; omega) (by omega) fun a1 c1 hc1 => ?_)
  rw [← hWl, ← flat_append, ← hW]
  refine VO.opn 0 rfl (HOpn.rl _ a1 c1 W (fun _ => rfl)) ?_
  rintro r ⟨rok, hrv, hrx⟩
  obtain ⟨kb, off, r1, r2, r3⟩ := rok.at_ (fun e => by rw [hrx] at e; rw [e] at hWl; simp at hWl)
  obtain rfl : a1 = some ⟨kb, off, none⟩ := by rw [RL.v, r2, hrx] at hrv; injection hrv with e1; exact e1.symm
  rw [RL.h_pt r1]
  generalize r.cells = cells at r3
  rw [hrx] at r3
  have hcell : ∀ j, j < W.length → cells[off + j * 1]? = some (.string (W.getD j nilB)) := fun j hj => by
    have h1 := r3 j _ (List.getElem?_eq_getElem hj)
    have h2 : ((cells.drop (off + j * 1)).take 1)[0]? = some (.string W[j]) := by rw [h1]; rfl
    rw [List.getElem?_take, if_pos (by decide), List.getElem?_drop, Nat.add_zero] at h2
    rw [h2, List.getD_eq_getElem?_getD, List.getElem?_eq_getElem hj]; rfl
  (repeat (first | refine VC.seq ?_ | refine VC.region ?_ | refine VC.block ?_ | refine VC.label ?_ | refine VC.scope ?_ | refine VO.go (VO.nil ?_) | refine VO.go (VO.ld 0 rfl rfl rfl rfl ?_)))
  refine VO.go (VO.light (light_build (pv := []) (doC doZ) rfl rfl rfl (by kernel_rfl) rfl) ?_)
  refine VO.go (VO.alloc rfl fun db => ?_)
  refine VO.go (VO.stA (vs := doC doZ) 0 rfl rfl rfl rfl (Nat.le_refl _) rfl rfl rfl ?_)
  (repeat (first | refine VC.seq ?_ | refine VC.region ?_ | refine VC.block ?_ | refine VC.label ?_ | refine VC.scope ?_ | refine VO.go (VO.nil ?_) | refine VO.go (VO.ld 0 rfl rfl rfl rfl ?_)))
  refine VC.loop (σ := Nat) (fun j => [(0, .string s), (2, .pointer (some ⟨rb, 0, none⟩)), (4, .slice (some ⟨kb, off, none⟩) W.length c1), (5, .pointer (some ⟨db, 0, none⟩)), (6, .int .i64 ((j + 1 : Nat) : Int))]) (fun j => [pt db (doC { doZ with kind := kindTo (W.getD 0 nilB) j }) 29, pt kb cells 9, pt rb (doC doZ) 29]) (fun j => j ≤ 11) (fun j => 11 - j) 0
    (Nat.zero_le _) (Sub.cons rfl (Sub.cons rfl (Sub.cons rfl (Sub.cons rfl (Sub.cons rfl (Sub.nil _)))))) (Imp.pick 0 rfl (Imp.pick 0 rfl (Imp.pick 1 rfl Imp.nil))).ent ?_
  intro j hj
  (repeat (first | refine VC.seq ?_ | refine VC.region ?_ | refine VC.block ?_ | refine VC.label ?_ | refine VC.scope ?_ | refine VO.go (VO.nil ?_) | refine VO.go (VO.ld 0 rfl rfl rfl rfl ?_)))
  refine VC.condP rfl (fun h1 => VC.skip ?_) (fun h1 => VC.exit ?_)
  · have hj2 : j + 1 ≤ 11 := by omega
    (repeat (first | refine VC.seq ?_ | refine VC.region ?_ | refine VC.block ?_ | refine VC.label ?_ | refine VC.scope ?_ | refine VO.go (VO.nil ?_) | refine VO.go (VO.ld 0 rfl rfl rfl rfl ?_)))
    refine VO.go (VO.callV' (fun Fr w hF hw _ => rword_spec Fr w ((j + 1 : Nat) : Int)) rfl ?_)
    rw [show wordV ((j + 1 : Nat) : Int) = .tuple #[.string (toB (wordK (j + 1))), .int .i64 (numK (j + 1))] by
      rw [wordV, show isK ((j + 1 : Nat) : Int) = true by simp [isK]; omega]; rfl]
    (repeat (first | refine VC.seq ?_ | refine VC.region ?_ | refine VC.block ?_ | refine VC.label ?_ | refine VC.scope ?_ | refine VO.go (VO.nil ?_) | refine VO.go (VO.ld 0 rfl rfl rfl rfl ?_)))
    refine VO.go (VO.light (light_idx 0 rfl rfl rfl rfl rfl rfl (by omega)) ?_)
    refine VO.go (VO.load rfl rfl (RdL.one 1 rfl (hcell 0 (by omega))) ?_)
    (repeat (first | refine VC.seq ?_ | refine VC.region ?_ | refine VC.block ?_ | refine VC.label ?_ | refine VC.scope ?_ | refine VO.go (VO.nil ?_) | refine VO.go (VO.ld 0 rfl rfl rfl rfl ?_)))
    refine VC.cond rfl (fun h2 => ?_) (fun h2 => VC.skip ?_)
    · have h2 : toB (wordK (j + 1)) = W.getD 0 nilB := by rw [strEq] at h2; exact of_decide_eq_true h2
      (repeat (first | refine VC.seq ?_ | refine VC.region ?_ | refine VC.block ?_ | refine VC.label ?_ | refine VC.scope ?_ | refine VO.go (VO.nil ?_) | refine VO.go (VO.ld 0 rfl rfl rfl rfl ?_)))
      refine VO.go (VO.st 0 (cs' := doC { doZ with kind := ((j + 1 : Nat) : Int) }) rfl rfl rfl rfl (Nat.le_of_ble_eq_true rfl) rfl rfl ?_)
      (repeat (first | refine VC.seq ?_ | refine VC.region ?_ | refine VC.block ?_ | refine VC.label ?_ | refine VC.scope ?_ | refine VO.go (VO.nil ?_) | refine VO.go (VO.ld 0 rfl rfl rfl rfl ?_)))
      refine VO.go (VO.add rfl rfl (by omega) (by omega) ?_)
      (repeat (first | refine VC.seq ?_ | refine VC.region ?_ | refine VC.block ?_ | refine VC.label ?_ | refine VC.scope ?_ | refine VO.go (VO.nil ?_) | refine VO.go (VO.ld 0 rfl rfl rfl rfl ?_)))
      refine ⟨j + 1, hj2, by dsimp only; omega, Sub.cons rfl (Sub.cons rfl (Sub.cons rfl (Sub.cons rfl (Sub.cons rfl (Sub.nil _))))), ?_⟩
      dsimp only
      rw [kindTo, if_pos h2]
      exact Ent.refl
    · have h2 : toB (wordK (j + 1)) ≠ W.getD 0 nilB := by rw [strEq] at h2; exact of_decide_eq_false h2
      (repeat (first | refine VC.seq ?_ | refine VC.region ?_ | refine VC.block ?_ | refine VC.label ?_ | refine VC.scope ?_ | refine VO.go (VO.nil ?_) | refine VO.go (VO.ld 0 rfl rfl rfl rfl ?_)))
      refine VO.go (VO.add rfl rfl (by omega) (by omega) ?_)
      (repeat (first | refine VC.seq ?_ | refine VC.region ?_ | refine VC.block ?_ | refine VC.label ?_ | refine VC.scope ?_ | refine VO.go (VO.nil ?_) | refine VO.go (VO.ld 0 rfl rfl rfl rfl ?_)))
      refine ⟨j + 1, hj2, by dsimp only; omega, Sub.cons rfl (Sub.cons rfl (Sub.cons rfl (Sub.cons rfl (Sub.cons rfl (Sub.nil _))))), ?_⟩
      dsimp only
      rw [kindTo, if_neg h2]
      exact Ent.refl
  obtain rfl : j = 11 := by omega
  rw [← hk]
  (repeat (first | refine VC.seq ?_ | refine VC.region ?_ | refine VC.block ?_ | refine VC.label ?_ | refine VC.scope ?_ | refine VO.go (VO.nil ?_) | refine VO.go (VO.ld 0 rfl rfl rfl rfl ?_)))
  refine VO.go (VO.callV' (fun Fr w hF hw _ => rword_spec Fr w (k : Int)) rfl ?_)
  obtain ⟨wd, nI, hwv, hlt, hge, hn5⟩ : ∃ wd nI, wordV (k : Int) = .tuple #[.string wd, .int .i64 nI] ∧ (∀ i : Nat, (i : Int) < nI → i < numK k) ∧ (∀ i : Nat, ¬ (i : Int) < nI → numK k ≤ i) ∧ (nI = 5 ↔ numK k = 5) := by
    by_cases h0 : k = 0
    · refine ⟨toB [], -1, by rw [h0]; rfl, fun i hi => by omega, fun i _ => by rw [h0]; exact Nat.zero_le _, by rw [h0]; decide⟩
    · exact ⟨toB (wordK k), numK k, by rw [wordV, show isK (k : Int) = true by simp [isK]; omega]; rfl, fun i hi => by omega, fun i hi => by omega, by omega⟩
  rw [hwv]
  have hN5 := numK_le k hk12
  (repeat (first | refine VC.seq ?_ | refine VC.region ?_ | refine VC.block ?_ | refine VC.label ?_ | refine VC.scope ?_ | refine VO.go (VO.nil ?_) | refine VO.go (VO.ld 0 rfl rfl rfl rfl ?_)))
  refine VO.go (VO.light (light_buildArr (pv := []) (arrC []) rfl rfl rfl rfl (by kernel_rfl)) ?_)
  refine VO.go (VO.alloc rfl fun ab => ?_)
  refine VO.go (VO.stA (vs := arrC []) 0 rfl rfl rfl rfl (Nat.le_refl _) rfl rfl rfl ?_)
  (repeat (first | refine VC.seq ?_ | refine VC.region ?_ | refine VC.block ?_ | refine VC.label ?_ | refine VC.scope ?_ | refine VO.go (VO.nil ?_) | refine VO.go (VO.ld 0 rfl rfl rfl rfl ?_)))
  refine VC.loop (σ := List Int) (fun ns => [(0, .string s), (2, .pointer (some ⟨rb, 0, none⟩)), (4, .slice (some ⟨kb, off, none⟩) W.length c1), (5, .pointer (some ⟨db, 0, none⟩)), (10, .int .i64 nI), (11, .pointer (some ⟨ab, 0, none⟩)), (12, .int .i64 ns.length)]) (fun ns => [pt ab (arrC ns) 68, pt db (doC { doZ with kind := (k : Int) }) 29, pt kb cells 9, pt rb (doC doZ) 29]) (fun ns => ns.length ≤ numK k ∧ ∀ j n, ns[j]? = some n → NumSp (W.getD (1 + j) nilB) n) (fun ns => numK k - ns.length) []
    ⟨Nat.zero_le _, fun j n h => by simp at h⟩ (Sub.cons rfl (Sub.cons rfl (Sub.cons rfl (Sub.cons rfl (Sub.cons rfl (Sub.cons rfl (Sub.cons rfl (Sub.nil _)))))))) Ent.refl ?_
  rintro ns ⟨hns, hsp⟩
  (repeat (first | refine VC.seq ?_ | refine VC.region ?_ | refine VC.block ?_ | refine VC.label ?_ | refine VC.scope ?_ | refine VO.go (VO.nil ?_) | refine VO.go (VO.ld 0 rfl rfl rfl rfl ?_)))
  refine VC.condP rfl (fun h1 => VC.skip ?_) (fun h1 => VC.exit ?_)
  · have hi := hlt _ h1
    have hlen := arrC_len (ns := ns) (by omega)
    (repeat (first | refine VC.seq ?_ | refine VC.region ?_ | refine VC.block ?_ | refine VC.label ?_ | refine VC.scope ?_ | refine VO.go (VO.nil ?_) | refine VO.go (VO.ld 0 rfl rfl rfl rfl ?_)))
    refine VO.go (VO.add rfl rfl (by omega) (by omega) ?_)
    refine VO.go (VO.light (light_idx (1 + ns.length) rfl rfl rfl rfl rfl (by omega) (by omega)) ?_)
    refine VO.go (VO.load rfl rfl (RdL.one 2 rfl (hcell (1 + ns.length) (by omega))) ?_)
    refine VO.go (VO.call (Lc := []) (fun Fr w hF hw _ => rnumber_spec Fr w (W.getD (1 + ns.length) nilB) (hWsz _)) rfl rfl ?_)
    rintro _ _ ⟨⟨n, rfl, hnn⟩, rfl⟩
    (repeat (first | refine VC.seq ?_ | refine VC.region ?_ | refine VC.block ?_ | refine VC.label ?_ | refine VC.scope ?_ | refine VO.go (VO.nil ?_) | refine VO.go (VO.ld 0 rfl rfl rfl rfl ?_)))
    refine VO.go (VO.light (light_idxA ns.length rfl rfl rfl rfl rfl rfl (by omega)) ?_)
    refine VO.go (VO.st 0 (cs' := arrC (ns ++ [n])) rfl rfl rfl rfl (by rw [hlen]; show 0 + ns.length * 1 < 5; omega) (arrC_set n (by omega)) rfl ?_)
    (repeat (first | refine VC.seq ?_ | refine VC.region ?_ | refine VC.block ?_ | refine VC.label ?_ | refine VC.scope ?_ | refine VO.go (VO.nil ?_) | refine VO.go (VO.ld 0 rfl rfl rfl rfl ?_)))
    refine VO.go (VO.add rfl rfl (by omega) (by omega) ?_)
    (repeat (first | refine VC.seq ?_ | refine VC.region ?_ | refine VC.block ?_ | refine VC.label ?_ | refine VC.scope ?_ | refine VO.go (VO.nil ?_) | refine VO.go (VO.ld 0 rfl rfl rfl rfl ?_)))
    have hL : (ns ++ [n]).length = ns.length + 1 := by simp
    refine ⟨ns ++ [n], ⟨by rw [hL]; omega, fun j m hj => ?_⟩, by dsimp only; rw [hL]; omega, Sub.cons rfl (Sub.cons rfl (Sub.cons rfl (Sub.cons rfl (Sub.cons rfl (Sub.cons rfl (Sub.cons (by rw [hL]; rfl) (Sub.nil _))))))), Ent.refl⟩
    by_cases hjn : j < ns.length
    · rw [List.getElem?_append_left hjn] at hj; exact hsp j m hj
    · rw [List.getElem?_append_right (by omega)] at hj
      have hj0 : j = ns.length := by
        cases hd : j - ns.length with
        | zero => omega
        | succ q => rw [hd] at hj; simp at hj
      subst hj0
      simp at hj; subst hj; exact hnn
  · have hnl : ns.length = numK k := by have := hge _ h1; omega
    obtain ⟨a0, a1, a2, a3, a4, harr, hget, hzero⟩ := arrC_five (ns := ns) (by omega)
    have hpl := step_plain hW hk (a0 := a0) (a1 := a1) (a2 := a2) (a3 := a3) (a4 := a4) (fun j hj => by
      have hg := List.getElem?_eq_getElem (l := ns) (i := j) (by omega)
      rw [hget j _ hg]; exact hsp j _ hg) (fun j hj => hzero j (by omega)) hs
    obtain ⟨hok, hyes, hno⟩ := hpl
    rw [harr]
    refine VC.seq (VC.draw (ts 0 7 (.only 7 (.take 8 (.only 9 (.take 10 (.only 11 .nil)))))) (by kernel_rfl) (by decide +kernel) ?_)
    refine VA.go (VA.light rfl (light_idxA 0 rfl rfl rfl rfl rfl rfl (by decide)) ?_)
    (repeat (first | refine VA.go (VA.nil ?_) | refine VA.go (VA.ld 0 rfl rfl rfl rfl rfl ?_) | refine VA.go (VA.ld 1 rfl rfl rfl rfl rfl ?_) | refine VA.go (VA.offU rfl rfl rfl rfl ?_)))
    refine VA.go (VA.light rfl (light_idxA 1 rfl rfl rfl rfl rfl rfl (by decide)) ?_)
    (repeat (first | refine VA.go (VA.nil ?_) | refine VA.go (VA.ld 0 rfl rfl rfl rfl rfl ?_) | refine VA.go (VA.ld 1 rfl rfl rfl rfl rfl ?_) | refine VA.go (VA.offU rfl rfl rfl rfl ?_)))
    refine VA.go (VA.light rfl (light_idxA 2 rfl rfl rfl rfl rfl rfl (by decide)) ?_)
    (repeat (first | refine VA.go (VA.nil ?_) | refine VA.go (VA.ld 0 rfl rfl rfl rfl rfl ?_) | refine VA.go (VA.ld 1 rfl rfl rfl rfl rfl ?_) | refine VA.go (VA.offU rfl rfl rfl rfl ?_)))
    refine VA.go (VA.st 1 rfl rfl rfl rfl rfl (Nat.le_of_ble_eq_true rfl) rfl rfl (by (try refine Pd.st ?_); (repeat (first | exact Pd.nil | exact Pd.fnil | refine Pd.inner ?_ | refine Pd.skip (by decide +kernel) ?_ | refine Pd.fcons (RdL.one 0 rfl rfl) ?_ | refine Pd.fcons (RdL.one 1 rfl rfl) ?_ | refine Pd.fcons (RdL.many 0 rfl rfl) ?_ | refine Pd.fcons (RdL.many 1 rfl rfl) ?_ | refine Pd.cons (RdL.one 0 rfl rfl) ?_ | refine Pd.cons (RdL.one 1 rfl rfl) ?_ | refine Pd.cons (RdL.many 0 rfl rfl) ?_ | refine Pd.cons (RdL.many 1 rfl rfl) ?_ | refine Pd.fconsM (MpL.one 0 rfl) ?_ | refine Pd.fconsM (MpL.one 1 rfl) ?_ | refine Pd.consM (MpL.one 0 rfl) ?_ | refine Pd.consM (MpL.one 1 rfl) ?_))) ?_)
    (repeat (first | refine VA.go (VA.nil ?_) | refine VA.go (VA.ld 0 rfl rfl rfl rfl rfl ?_) | refine VA.go (VA.ld 1 rfl rfl rfl rfl rfl ?_) | refine VA.go (VA.offU rfl rfl rfl rfl ?_)))
    refine VA.go (VA.st 1 rfl rfl rfl rfl rfl (Nat.le_of_ble_eq_true rfl) rfl rfl (by (try refine Pd.st ?_); (repeat (first | exact Pd.nil | exact Pd.fnil | refine Pd.inner ?_ | refine Pd.skip (by decide +kernel) ?_ | refine Pd.fcons (RdL.one 0 rfl rfl) ?_ | refine Pd.fcons (RdL.one 1 rfl rfl) ?_ | refine Pd.fcons (RdL.many 0 rfl rfl) ?_ | refine Pd.fcons (RdL.many 1 rfl rfl) ?_ | refine Pd.cons (RdL.one 0 rfl rfl) ?_ | refine Pd.cons (RdL.one 1 rfl rfl) ?_ | refine Pd.cons (RdL.many 0 rfl rfl) ?_ | refine Pd.cons (RdL.many 1 rfl rfl) ?_ | refine Pd.fconsM (MpL.one 0 rfl) ?_ | refine Pd.fconsM (MpL.one 1 rfl) ?_ | refine Pd.consM (MpL.one 0 rfl) ?_ | refine Pd.consM (MpL.one 1 rfl) ?_))) ?_)
    (repeat (first | refine VA.go (VA.nil ?_) | refine VA.go (VA.ld 0 rfl rfl rfl rfl rfl ?_) | refine VA.go (VA.ld 1 rfl rfl rfl rfl rfl ?_) | refine VA.go (VA.offU rfl rfl rfl rfl ?_)))
    refine VA.go (VA.st 1 rfl rfl rfl rfl rfl (Nat.le_of_ble_eq_true rfl) rfl rfl (by (try refine Pd.st ?_); (repeat (first | exact Pd.nil | exact Pd.fnil | refine Pd.inner ?_ | refine Pd.skip (by decide +kernel) ?_ | refine Pd.fcons (RdL.one 0 rfl rfl) ?_ | refine Pd.fcons (RdL.one 1 rfl rfl) ?_ | refine Pd.fcons (RdL.many 0 rfl rfl) ?_ | refine Pd.fcons (RdL.many 1 rfl rfl) ?_ | refine Pd.cons (RdL.one 0 rfl rfl) ?_ | refine Pd.cons (RdL.one 1 rfl rfl) ?_ | refine Pd.cons (RdL.many 0 rfl rfl) ?_ | refine Pd.cons (RdL.many 1 rfl rfl) ?_ | refine Pd.fconsM (MpL.one 0 rfl) ?_ | refine Pd.fconsM (MpL.one 1 rfl) ?_ | refine Pd.consM (MpL.one 0 rfl) ?_ | refine Pd.consM (MpL.one 1 rfl) ?_))) ?_)
    (repeat (first | refine VA.go (VA.nil ?_) | refine VA.go (VA.ld 0 rfl rfl rfl rfl rfl ?_) | refine VA.go (VA.ld 1 rfl rfl rfl rfl rfl ?_) | refine VA.go (VA.offU rfl rfl rfl rfl ?_)))
    obtain ⟨dF, hdF⟩ : ∃ dF, dF = dOf k a0 a1 a2 a3 a4 (W.getD 6 nilB) (W.getD 7 nilB) := ⟨_, rfl⟩
    rw [← hdF] at hok hyes hno
    refine VC.seq ?_
    refine VC.meetS (σ := Unit) (fun _ => [(0, .string s), (2, .pointer (some ⟨rb, 0, none⟩)), (5, .pointer (some ⟨db, 0, none⟩))]) (fun _ => [pt db (doC dF) 29, pt rb (doC doZ) 29]) (fun _ => True) ?_ ?_
    · (repeat (first | refine VC.seq ?_ | refine VC.region ?_ | refine VC.block ?_ | refine VC.label ?_ | refine VC.scope ?_ | refine VO.go (VO.nil ?_) | refine VO.go (VO.ld 0 rfl rfl rfl rfl ?_)))
      refine VC.condP rfl (fun h2 => ?_) (fun h2 => VC.skip ?_)
      · have h5 := hn5.1 h2
        have hcd : doC dF = [.int .i64 k, .int .i64 a0, .int .i64 a1, .int .i64 a2, .int .i64 a3, .string (txT (W.getD 6 nilB)), .string (txT (W.getD 7 nilB)), .int .i64 a4] := by rw [hdF, dOf, if_pos h5]; rfl
        have c6 := hcell 6 (by omega)
        have c7 := hcell 7 (by omega)
        refine VC.draw (ts 0 7 (ts 8 3 (.only 7 (.only 11 (.take 12 (.take 13 (.only 14 .nil))))))) (by kernel_rfl) (by decide +kernel) ?_
        (repeat (first | refine VA.go (VA.nil ?_) | refine VA.go (VA.ld 0 rfl rfl rfl rfl rfl ?_) | refine VA.go (VA.ld 1 rfl rfl rfl rfl rfl ?_) | refine VA.go (VA.offU rfl rfl rfl rfl ?_)))
        refine VA.go (VA.light rfl (light_idxA 3 rfl rfl rfl rfl rfl rfl (by decide)) ?_)
        (repeat (first | refine VA.go (VA.nil ?_) | refine VA.go (VA.ld 0 rfl rfl rfl rfl rfl ?_) | refine VA.go (VA.ld 1 rfl rfl rfl rfl rfl ?_) | refine VA.go (VA.offU rfl rfl rfl rfl ?_)))
        refine VA.go (VA.light rfl (light_idxA 4 rfl rfl rfl rfl rfl rfl (by decide)) ?_)
        (repeat (first | refine VA.go (VA.nil ?_) | refine VA.go (VA.ld 0 rfl rfl rfl rfl rfl ?_) | refine VA.go (VA.ld 1 rfl rfl rfl rfl rfl ?_) | refine VA.go (VA.offU rfl rfl rfl rfl ?_)))
        refine VA.go (VA.light rfl (light_idx 6 rfl rfl rfl rfl rfl rfl (by omega)) ?_)
        refine VA.go (VA.load rfl rfl rfl (RdL.one 2 rfl c6) ?_)
        (repeat (first | refine VA.go (VA.nil ?_) | refine VA.go (VA.ld 0 rfl rfl rfl rfl rfl ?_) | refine VA.go (VA.ld 1 rfl rfl rfl rfl rfl ?_) | refine VA.go (VA.offU rfl rfl rfl rfl ?_)))
        refine VA.go (VA.light rfl (light_idx 7 rfl rfl rfl rfl rfl rfl (by omega)) ?_)
        refine VA.go (VA.load rfl rfl rfl (RdL.one 2 rfl c7) ?_)
        refine VA.go (VA.callR (fun Fr w hF hs hS => rtext_spec Fr w (W.getD 6 nilB) (hWsz _)) rfl rfl (by (try refine Pd.st ?_); (repeat (first | exact Pd.nil | exact Pd.fnil | refine Pd.inner ?_ | refine Pd.skip (by decide +kernel) ?_ | refine Pd.fcons (RdL.one 0 rfl rfl) ?_ | refine Pd.fcons (RdL.one 1 rfl rfl) ?_ | refine Pd.fcons (RdL.many 0 rfl rfl) ?_ | refine Pd.fcons (RdL.many 1 rfl rfl) ?_ | refine Pd.fcons (RdL.blk (RdL.one 2 rfl c6) rfl) ?_ | refine Pd.fcons (RdL.blk (RdL.one 2 rfl c7) rfl) ?_ | refine Pd.fcons ((RdL.one 2 rfl c6)) ?_ | refine Pd.fcons ((RdL.one 2 rfl c7)) ?_ | refine Pd.cons (RdL.one 0 rfl rfl) ?_ | refine Pd.cons (RdL.one 1 rfl rfl) ?_ | refine Pd.cons (RdL.many 0 rfl rfl) ?_ | refine Pd.cons (RdL.many 1 rfl rfl) ?_ | refine Pd.cons (RdL.blk (RdL.one 2 rfl c6) rfl) ?_ | refine Pd.cons (RdL.blk (RdL.one 2 rfl c7) rfl) ?_ | refine Pd.cons ((RdL.one 2 rfl c6)) ?_ | refine Pd.cons ((RdL.one 2 rfl c7)) ?_ | refine Pd.fconsM (MpL.one 0 rfl) ?_ | refine Pd.fconsM (MpL.one 1 rfl) ?_ | refine Pd.fconsM ((RdL.one 2 rfl c6)) ?_ | refine Pd.fconsM ((RdL.one 2 rfl c7)) ?_ | refine Pd.consM (MpL.one 0 rfl) ?_ | refine Pd.consM (MpL.one 1 rfl) ?_ | refine Pd.consM ((RdL.one 2 rfl c6)) ?_ | refine Pd.consM ((RdL.one 2 rfl c7)) ?_))) ?_)
        refine VA.go (VA.callR (fun Fr w hF hs hS => rtext_spec Fr w (W.getD 7 nilB) (hWsz _)) rfl rfl (by (try refine Pd.st ?_); (repeat (first | exact Pd.nil | exact Pd.fnil | refine Pd.inner ?_ | refine Pd.skip (by decide +kernel) ?_ | refine Pd.fcons (RdL.one 0 rfl rfl) ?_ | refine Pd.fcons (RdL.one 1 rfl rfl) ?_ | refine Pd.fcons (RdL.many 0 rfl rfl) ?_ | refine Pd.fcons (RdL.many 1 rfl rfl) ?_ | refine Pd.fcons (RdL.blk (RdL.one 2 rfl c6) rfl) ?_ | refine Pd.fcons (RdL.blk (RdL.one 2 rfl c7) rfl) ?_ | refine Pd.fcons ((RdL.one 2 rfl c6)) ?_ | refine Pd.fcons ((RdL.one 2 rfl c7)) ?_ | refine Pd.cons (RdL.one 0 rfl rfl) ?_ | refine Pd.cons (RdL.one 1 rfl rfl) ?_ | refine Pd.cons (RdL.many 0 rfl rfl) ?_ | refine Pd.cons (RdL.many 1 rfl rfl) ?_ | refine Pd.cons (RdL.blk (RdL.one 2 rfl c6) rfl) ?_ | refine Pd.cons (RdL.blk (RdL.one 2 rfl c7) rfl) ?_ | refine Pd.cons ((RdL.one 2 rfl c6)) ?_ | refine Pd.cons ((RdL.one 2 rfl c7)) ?_ | refine Pd.fconsM (MpL.one 0 rfl) ?_ | refine Pd.fconsM (MpL.one 1 rfl) ?_ | refine Pd.fconsM ((RdL.one 2 rfl c6)) ?_ | refine Pd.fconsM ((RdL.one 2 rfl c7)) ?_ | refine Pd.consM (MpL.one 0 rfl) ?_ | refine Pd.consM (MpL.one 1 rfl) ?_ | refine Pd.consM ((RdL.one 2 rfl c6)) ?_ | refine Pd.consM ((RdL.one 2 rfl c7)) ?_))) ?_)
        refine VA.go (VA.light rfl (light_build (pv := [(0, .int .i64 a3), (3, .int .i64 a4), (1, .string (txT (W.getD 6 nilB))), (2, .string (txT (W.getD 7 nilB)))]) [.int .i64 a3, .string (txT (W.getD 6 nilB)), .string (txT (W.getD 7 nilB)), .int .i64 a4] rfl rfl rfl (by kernel_rfl) rfl) ?_)
        (repeat (first | refine VA.go (VA.nil ?_) | refine VA.go (VA.ld 0 rfl rfl rfl rfl rfl ?_) | refine VA.go (VA.ld 1 rfl rfl rfl rfl rfl ?_) | refine VA.go (VA.offU rfl rfl rfl rfl ?_)))
        refine VA.go (VA.stA (vs := [.int .i64 a3, .string (txT (W.getD 6 nilB)), .string (txT (W.getD 7 nilB)), .int .i64 a4]) 1 rfl rfl rfl rfl rfl (Nat.le_of_ble_eq_true rfl) rfl rfl rfl (by (try refine Pd.st ?_); (repeat (first | exact Pd.nil | exact Pd.fnil | refine Pd.inner ?_ | refine Pd.skip (by decide +kernel) ?_ | refine Pd.fcons (RdL.one 0 rfl rfl) ?_ | refine Pd.fcons (RdL.one 1 rfl rfl) ?_ | refine Pd.fcons (RdL.many 0 rfl rfl) ?_ | refine Pd.fcons (RdL.many 1 rfl rfl) ?_ | refine Pd.fcons (RdL.blk (RdL.one 2 rfl c6) rfl) ?_ | refine Pd.fcons (RdL.blk (RdL.one 2 rfl c7) rfl) ?_ | refine Pd.fcons ((RdL.one 2 rfl c6)) ?_ | refine Pd.fcons ((RdL.one 2 rfl c7)) ?_ | refine Pd.cons (RdL.one 0 rfl rfl) ?_ | refine Pd.cons (RdL.one 1 rfl rfl) ?_ | refine Pd.cons (RdL.many 0 rfl rfl) ?_ | refine Pd.cons (RdL.many 1 rfl rfl) ?_ | refine Pd.cons (RdL.blk (RdL.one 2 rfl c6) rfl) ?_ | refine Pd.cons (RdL.blk (RdL.one 2 rfl c7) rfl) ?_ | refine Pd.cons ((RdL.one 2 rfl c6)) ?_ | refine Pd.cons ((RdL.one 2 rfl c7)) ?_ | refine Pd.fconsM (MpL.one 0 rfl) ?_ | refine Pd.fconsM (MpL.one 1 rfl) ?_ | refine Pd.fconsM ((RdL.one 2 rfl c6)) ?_ | refine Pd.fconsM ((RdL.one 2 rfl c7)) ?_ | refine Pd.consM (MpL.one 0 rfl) ?_ | refine Pd.consM (MpL.one 1 rfl) ?_ | refine Pd.consM ((RdL.one 2 rfl c6)) ?_ | refine Pd.consM ((RdL.one 2 rfl c7)) ?_))) ?_)
        (repeat (first | refine VA.go (VA.nil ?_) | refine VA.go (VA.ld 0 rfl rfl rfl rfl rfl ?_) | refine VA.go (VA.ld 1 rfl rfl rfl rfl rfl ?_) | refine VA.go (VA.offU rfl rfl rfl rfl ?_)))
        exact ⟨(), trivial, Sub.cons rfl (Sub.cons rfl (Sub.cons rfl (Sub.nil _))), by rw [hcd]; exact (Imp.pick 1 rfl (Imp.pick 2 rfl Imp.nil)).ent⟩
      · have h5 : ¬ numK k = 5 := fun h => h2 (hn5.2 h)
        have hcd : doC dF = [.int .i64 k, .int .i64 a0, .int .i64 a1, .int .i64 a2, .int .i64 0, .string nilB, .string nilB, .int .i64 0] := by rw [hdF, dOf, if_neg h5]; rfl
        exact ⟨(), trivial, Sub.cons rfl (Sub.cons rfl (Sub.cons rfl (Sub.nil _))), by rw [hcd]; exact (Imp.pick 1 rfl (Imp.pick 2 rfl Imp.nil)).ent⟩
    rintro _ _
    refine VC.seq (VC.draw (ts 0 2 (ts 3 2 (.only 2 (.take 5 (.only 6 (.take 7 .nil)))))) (by kernel_rfl) (by decide +kernel) ?_)
    refine VA.go (VA.ldA 0 (doC dF) rfl rfl rfl rfl rfl ?_)
    refine VA.go (VA.ldA 0 (doC dF) rfl rfl rfl rfl rfl ?_)
    (repeat (first | refine VA.go (VA.nil ?_) | refine VA.go (VA.ld 0 rfl rfl rfl rfl rfl ?_) | refine VA.go (VA.ld 1 rfl rfl rfl rfl rfl ?_) | refine VA.go (VA.offU rfl rfl rfl rfl ?_)))
    refine VA.go (VA.light rfl (light_cat rfl rfl (by show _ + 1 ≤ _; omega)) ?_)
    refine VA.go (VA.callR (fun Fr w hF hs hS => line_spec Fr w hok) rfl rfl (by (try refine Pd.st ?_); (repeat (first | exact Pd.nil | exact Pd.fnil | refine Pd.inner ?_ | refine Pd.skip (by decide +kernel) ?_ | refine Pd.fcons (RdL.one 0 rfl rfl) ?_ | refine Pd.fcons (RdL.one 1 rfl rfl) ?_ | refine Pd.fcons (RdL.many 0 rfl rfl) ?_ | refine Pd.fcons (RdL.many 1 rfl rfl) ?_ | refine Pd.cons (RdL.one 0 rfl rfl) ?_ | refine Pd.cons (RdL.one 1 rfl rfl) ?_ | refine Pd.cons (RdL.many 0 rfl rfl) ?_ | refine Pd.cons (RdL.many 1 rfl rfl) ?_ | refine Pd.fconsM (MpL.one 0 rfl) ?_ | refine Pd.fconsM (MpL.one 1 rfl) ?_ | refine Pd.consM (MpL.one 0 rfl) ?_ | refine Pd.consM (MpL.one 1 rfl) ?_))) ?_)
    (repeat (first | refine VA.go (VA.nil ?_) | refine VA.go (VA.ld 0 rfl rfl rfl rfl rfl ?_) | refine VA.go (VA.ld 1 rfl rfl rfl rfl rfl ?_) | refine VA.go (VA.offU rfl rfl rfl rfl ?_)))
    refine VA.go (VA.stA (vs := doC dF) 1 rfl rfl rfl rfl rfl (Nat.le_of_ble_eq_true rfl) rfl rfl rfl (by (try refine Pd.st ?_); (repeat (first | exact Pd.nil | exact Pd.fnil | refine Pd.inner ?_ | refine Pd.skip (by decide +kernel) ?_ | refine Pd.fcons (RdL.one 0 rfl rfl) ?_ | refine Pd.fcons (RdL.one 1 rfl rfl) ?_ | refine Pd.fcons (RdL.many 0 rfl rfl) ?_ | refine Pd.fcons (RdL.many 1 rfl rfl) ?_ | refine Pd.cons (RdL.one 0 rfl rfl) ?_ | refine Pd.cons (RdL.one 1 rfl rfl) ?_ | refine Pd.cons (RdL.many 0 rfl rfl) ?_ | refine Pd.cons (RdL.many 1 rfl rfl) ?_ | refine Pd.fconsM (MpL.one 0 rfl) ?_ | refine Pd.fconsM (MpL.one 1 rfl) ?_ | refine Pd.consM (MpL.one 0 rfl) ?_ | refine Pd.consM (MpL.one 1 rfl) ?_))) ?_)
    (repeat (first | refine VA.go (VA.nil ?_) | refine VA.go (VA.ld 0 rfl rfl rfl rfl rfl ?_) | refine VA.go (VA.ld 1 rfl rfl rfl rfl rfl ?_) | refine VA.go (VA.offU rfl rfl rfl rfl ?_)))
    have hbl : (((toB (lineL dF)).toList == (s ++ ⟨#[10]⟩).toList) = true ∧ lineR s = some dF) ∨ (((toB (lineL dF)).toList == (s ++ ⟨#[10]⟩).toList) = false ∧ lineR s = none) := by
      rw [strEq]
      have e2 : s ++ ⟨#[10]⟩ = toB (s.data.toList ++ [10]) := by rw [← toB_snoc, toB_data]
      rw [e2]
      by_cases h : lineL dF = s.data.toList ++ [10]
      · exact .inl ⟨by rw [h]; simp, hyes h⟩
      · exact .inr ⟨decide_eq_false fun he => h (by have := congrArg (fun x : ByteArray => x.data.toList) he; simpa [toB] using this), hno h⟩
    exact VC.ret (Ret.cellTmp 2 3 rfl rfl rfl (RdL.many (ds := doC dF) 1 rfl rfl) rfl Imp.nil.ent ⟨⟨dF, _, rfl, hbl⟩, rfl⟩)
end Go.Proofs.YtceobomlmdmicaaDoor.Scr
namespace Go.Proofs.YtceobomlmdmicaaDoor.Scr
open Go Go.Proofs.YtceobomlmdmicaaDoor.Vg Go.Proofs.YtceobomlmdmicaaDoor.T Go.Proofs.YtceobomlmdmicaaDoor.Api Go.Proofs.YtceobomlmdmicaaDoor.LibC
set_option linter.unusedSimpArgs false
set_option linter.unusedVariables false
attribute [local irreducible] VO VC VA

theorem cut_none {s : List UInt8} (h : (10 : UInt8) ∉ s) : (Lib.cut s [10]).2.2 = false := by
  unfold Lib.cut
  rw [index_none h, if_neg (by decide)]
theorem ext_list (s : ByteArray) (i j : Nat) : s.extract i j = toB ((s.data.toList.drop i).take (j - i)) := by
  apply ByteArray.ext
  rw [ByteArray.data_extract]
  apply Array.toList_inj.1
  rw [Array.toList_extract]
  simp [List.extract, toB]

set_option maxRecDepth 100000 in
set_option maxHeartbeats 2000000 in
theorem rget_spec (Fr : Nat → Prop) (w : World) (s : ByteArray) (hs : s.size ≤ 2000) :
    Tri Tryd.prog 12 [.string s] Fr w [] (fun v L => ∃ a c, v = .tuple #[.slice a (getM s).1.length c, .int .i64 (getM s).2.1, .int .i64 (getM s).2.2] ∧ L = [slH 29 8 a (getM s).1.length c (flat doC (getM s).1)]) := by
  refine Tri.of 47 Tryd.func12 rfl (by kernel_rfl) tabOk rfl rfl ?_
  (repeat (first | refine VC.seq ?_ | refine VC.region ?_ | refine VC.block ?_ | refine VC.label ?_ | refine VC.scope ?_ | refine VO.go (VO.nil ?_) | refine VO.go (VO.ld 0 rfl rfl rfl rfl ?_)))
  refine VC.loop (σ := Nat × Nat × List DoM × Option Addr × Nat) (fun x => [(0, .string s), (5, .slice x.2.2.2.1 x.2.2.1.length x.2.2.2.2), (6, .int .i64 x.1), (7, .int .i64 x.2.1)]) (fun x => [slH 29 8 x.2.2.2.1 x.2.2.1.length x.2.2.2.2 (flat doC x.2.2.1)])
    (fun x => x.1 ≤ x.2.1 ∧ x.2.1 ≤ s.size ∧ x.2.2.1.length ≤ x.1 ∧ (10 : UInt8) ∉ (s.data.toList.drop x.1).take (x.2.1 - x.1) ∧ ∃ f, s.size - x.1 < f ∧ getM s = getR f (s.data.toList.drop x.1) x.2.2.1) (fun x => s.size - x.2.1) (0, 0, [], none, 0)
    ⟨Nat.zero_le _, Nat.zero_le _, Nat.zero_le _, by simp, s.size + 1, by omega, rfl⟩ (Sub.cons rfl (Sub.cons rfl (Sub.cons rfl (Sub.cons rfl (Sub.nil _))))) (Imp.slNil Imp.nil).ent ?_
  rintro ⟨from_, i, acc, a, c⟩ ⟨hfi, his, hacc, hno, f, hf, hJ⟩
  dsimp only at hfi his hacc hno hf hJ ⊢
  (repeat (first | refine VC.seq ?_ | refine VC.region ?_ | refine VC.block ?_ | refine VC.label ?_ | refine VC.scope ?_ | refine VO.go (VO.nil ?_) | refine VO.go (VO.ld 0 rfl rfl rfl rfl ?_)))
  refine VC.condP rfl (fun h1 => VC.skip ?_) (fun h1 => VC.exit ?_)
  · have hi2 : i < s.size := by omega
    obtain ⟨b, hb⟩ := byte_at hi2
    have hbd : (s.data.toList.drop from_)[i - from_]? = some b := by rw [List.getElem?_drop, show from_ + (i - from_) = i by omega]; exact hb
    have htk : (s.data.toList.drop from_).take (i + 1 - from_) = (s.data.toList.drop from_).take (i - from_) ++ [b] := by
      rw [show i + 1 - from_ = (i - from_) + 1 by omega, List.take_add_one, hbd]; rfl
    (repeat (first | refine VC.seq ?_ | refine VC.region ?_ | refine VC.block ?_ | refine VC.label ?_ | refine VC.scope ?_ | refine VO.go (VO.nil ?_) | refine VO.go (VO.ld 0 rfl rfl rfl rfl ?_)))
    refine VO.go (VO.light (light_strAt i rfl rfl rfl rfl rfl hb) ?_)
    (repeat (first | refine VC.seq ?_ | refine VC.region ?_ | refine VC.block ?_ | refine VC.label ?_ | refine VC.scope ?_ | refine VO.go (VO.nil ?_) | refine VO.go (VO.ld 0 rfl rfl rfl rfl ?_)))
    refine VC.condN rfl (fun h2 => ?_) (fun h2 => VC.skip ?_)
    · have h2 : b ≠ 10 := fun h => by subst h; exact absurd h2 (by decide)
      refine VC.exit ?_
      (repeat (first | refine VC.seq ?_ | refine VC.region ?_ | refine VC.block ?_ | refine VC.label ?_ | refine VC.scope ?_ | refine VO.go (VO.nil ?_) | refine VO.go (VO.ld 0 rfl rfl rfl rfl ?_)))
      refine VO.go (VO.add rfl rfl (by omega) (by omega) ?_)
      (repeat (first | refine VC.seq ?_ | refine VC.region ?_ | refine VC.block ?_ | refine VC.label ?_ | refine VC.scope ?_ | refine VO.go (VO.nil ?_) | refine VO.go (VO.ld 0 rfl rfl rfl rfl ?_)))
      refine ⟨(from_, i + 1, acc, a, c), ⟨by dsimp only; omega, hi2, hacc, ?_, f, hf, hJ⟩, by dsimp only; omega, Sub.cons rfl (Sub.cons rfl (Sub.cons rfl (Sub.cons rfl (Sub.nil _)))), Ent.refl⟩
      dsimp only
      rw [htk]
      intro hm
      rcases List.mem_append.1 hm with hm | hm
      · exact hno hm
      · simp at hm; exact h2 hm.symm
    · have h2 : b = 10 := u8_eq.1 (by simpa using h2)
      subst h2
      have hdr : s.data.toList.drop from_ = (s.data.toList.drop from_).take (i - from_) ++ 10 :: s.data.toList.drop (i + 1) := by
        have := take_drop1 hbd
        rw [List.drop_drop, show from_ + (i - from_ + 1) = i + 1 by omega] at this
        exact this
      have hcut := cut_first (r := s.data.toList.drop (i + 1)) hno
      rw [← hdr] at hcut
      obtain ⟨f, rfl⟩ : ∃ k, f = k + 1 := ⟨f - 1, by omega⟩
      rw [getR, if_neg (by rw [hdr]; simp), hcut, if_pos rfl] at hJ
      simp only at hJ
      generalize hln : toB ((s.data.toList.drop from_).take (i - from_)) = ln at hJ
      have hlsz : ln.size ≤ 2000 := by rw [← hln, toB_size, List.length_take, List.length_drop, data_len]; omega
      (repeat (first | refine VC.seq ?_ | refine VC.region ?_ | refine VC.block ?_ | refine VC.label ?_ | refine VC.scope ?_ | refine VO.go (VO.nil ?_) | refine VO.go (VO.ld 0 rfl rfl rfl rfl ?_)))
      refine VO.go (VO.light (light_subS rfl rfl rfl rfl rfl (by omega) (by omega) (by omega)) ?_)
      rw [show ((from_ : Nat) : Int).toNat = from_ from rfl, show ((i : Nat) : Int).toNat = i from rfl, ext_list, hln]
      refine VO.go (VO.call (Lc := []) (fun Fr w hF hw _ => step_spec Fr w ln hlsz) rfl rfl ?_)
      rintro _ _ ⟨⟨d, ok, rfl, hcase⟩, rfl⟩
      (repeat (first | refine VC.seq ?_ | refine VC.region ?_ | refine VC.block ?_ | refine VC.label ?_ | refine VC.scope ?_ | refine VO.go (VO.nil ?_) | refine VO.go (VO.ld 0 rfl rfl rfl rfl ?_)))
      refine VO.go (VO.alloc rfl fun db => ?_)
      refine VO.go (VO.stA (vs := doC d) 0 rfl rfl rfl rfl (Nat.le_refl _) rfl rfl rfl ?_)
      (repeat (first | refine VC.seq ?_ | refine VC.region ?_ | refine VC.block ?_ | refine VC.label ?_ | refine VC.scope ?_ | refine VO.go (VO.nil ?_) | refine VO.go (VO.ld 0 rfl rfl rfl rfl ?_)))
      rcases hcase with ⟨rfl, hr⟩ | ⟨rfl, hr⟩
      · rw [hr] at hJ
        refine VC.condF rfl (VC.skip ?_)
        (repeat (first | refine VC.seq ?_ | refine VC.region ?_ | refine VC.block ?_ | refine VC.label ?_ | refine VC.scope ?_ | refine VO.go (VO.nil ?_) | refine VO.go (VO.ld 0 rfl rfl rfl rfl ?_)))
        refine VO.go (VO.ldA 0 (doC d) rfl rfl rfl rfl ?_)
        refine VO.go (VO.buildSlice (n := 1) (pv := [(0, .agg (doC d).toArray)]) (doC d) rfl rfl rfl rfl (by decide) (fill_one rfl rfl rfl) fun nb => ?_)
        refine VO.go (VO.append (m := 1) (news := doC d) 2 rfl rfl rfl rfl rfl rfl rfl (RdRow.pt 0 rfl rfl rfl) rfl (by show (acc.length + 1) * 80 ≤ _; omega) (by omega) fun a2 c2 hc2 => ?_)
        (repeat (first | refine VC.seq ?_ | refine VC.region ?_ | refine VC.block ?_ | refine VC.label ?_ | refine VC.scope ?_ | refine VO.go (VO.nil ?_) | refine VO.go (VO.ld 0 rfl rfl rfl rfl ?_)))
        refine VO.go (VO.add rfl rfl (by omega) (by omega) ?_)
        (repeat (first | refine VC.seq ?_ | refine VC.region ?_ | refine VC.block ?_ | refine VC.label ?_ | refine VC.scope ?_ | refine VO.go (VO.nil ?_) | refine VO.go (VO.ld 0 rfl rfl rfl rfl ?_)))
        refine VO.go (VO.add rfl rfl (by omega) (by omega) ?_)
        (repeat (first | refine VC.seq ?_ | refine VC.region ?_ | refine VC.block ?_ | refine VC.label ?_ | refine VC.scope ?_ | refine VO.go (VO.nil ?_) | refine VO.go (VO.ld 0 rfl rfl rfl rfl ?_)))
        have hL : (acc ++ [d]).length = acc.length + 1 := by simp
        have hF : flat doC (acc ++ [d]) = flat doC acc ++ doC d := by simp [flat_append, flat_cons, flat_nil]
        refine ⟨(i + 1, i + 1, acc ++ [d], a2, c2), ⟨Nat.le_refl _, hi2, by dsimp only; rw [hL]; omega, by simp, f, by dsimp only; omega, hJ⟩, by dsimp only; omega, Sub.cons rfl (Sub.cons (by rw [hL]; rfl) (Sub.cons rfl (Sub.cons rfl (Sub.nil _)))), ?_⟩
        dsimp only
        rw [hL, hF]
        exact (Imp.pick 0 rfl Imp.nil).ent
      · rw [hr] at hJ
        refine VC.condT rfl ?_
        (repeat (first | refine VC.seq ?_ | refine VC.region ?_ | refine VC.block ?_ | refine VC.label ?_ | refine VC.scope ?_ | refine VO.go (VO.nil ?_) | refine VO.go (VO.ld 0 rfl rfl rfl rfl ?_)))
        refine VO.go (VO.add rfl rfl (by omega) (by omega) ?_)
        (repeat (first | refine VC.seq ?_ | refine VC.region ?_ | refine VC.block ?_ | refine VC.label ?_ | refine VC.scope ?_ | refine VO.go (VO.nil ?_) | refine VO.go (VO.ld 0 rfl rfl rfl rfl ?_)))
        exact VC.ret (Ret.tmp3 2 3 4 rfl rfl rfl rfl (Imp.slNil Imp.nil).ent ⟨none, 0, by rw [hJ]; rfl, by rw [hJ]; rfl⟩)
  · obtain rfl : i = s.size := by omega
    have hall : (s.data.toList.drop from_).take (s.size - from_) = s.data.toList.drop from_ := List.take_of_length_le (by rw [List.length_drop, data_len]; omega)
    rw [hall] at hno
    obtain ⟨f, rfl⟩ : ∃ k, f = k + 1 := ⟨f - 1, by omega⟩
    (repeat (first | refine VC.seq ?_ | refine VC.region ?_ | refine VC.block ?_ | refine VC.label ?_ | refine VC.scope ?_ | refine VO.go (VO.nil ?_) | refine VO.go (VO.ld 0 rfl rfl rfl rfl ?_)))
    refine VC.condP rfl (fun h2 => ?_) (fun h2 => VC.skip ?_)
    · have hne : s.data.toList.drop from_ ≠ [] := fun e => by have := congrArg List.length e; rw [List.length_drop, data_len] at this; simp at this; omega
      rw [getR, if_neg hne, cut_none hno, if_neg (by simp)] at hJ
      (repeat (first | refine VC.seq ?_ | refine VC.region ?_ | refine VC.block ?_ | refine VC.label ?_ | refine VC.scope ?_ | refine VO.go (VO.nil ?_) | refine VO.go (VO.ld 0 rfl rfl rfl rfl ?_)))
      refine VO.go (VO.add rfl rfl (by omega) (by omega) ?_)
      (repeat (first | refine VC.seq ?_ | refine VC.region ?_ | refine VC.block ?_ | refine VC.label ?_ | refine VC.scope ?_ | refine VO.go (VO.nil ?_) | refine VO.go (VO.ld 0 rfl rfl rfl rfl ?_)))
      exact VC.ret (Ret.tmp3 2 3 4 rfl rfl rfl rfl (Imp.slNil Imp.nil).ent ⟨none, 0, by rw [hJ]; rfl, by rw [hJ]; rfl⟩)
    · have he : s.data.toList.drop from_ = [] := List.drop_eq_nil_of_le (by rw [data_len]; omega)
      rw [he, getR, if_pos rfl] at hJ
      rw [hJ]
      (repeat (first | refine VC.seq ?_ | refine VC.region ?_ | refine VC.block ?_ | refine VC.label ?_ | refine VC.scope ?_ | refine VO.go (VO.nil ?_) | refine VO.go (VO.ld 0 rfl rfl rfl rfl ?_)))
      exact VC.ret (Ret.tmp3 2 3 4 rfl rfl rfl rfl Ent.refl ⟨a, c, rfl, rfl⟩)
theorem rget_at (Fr : Nat → Prop) (w : World) {s : ByteArray} {l : List DoM} {n e : Int} (hg : getM s = (l, n, e)) (hs : s.size ≤ 2000) :
    Tri Tryd.prog 12 [.string s] Fr w [] (fun v L => ∃ a c, v = .tuple #[.slice a l.length c, .int .i64 n, .int .i64 e] ∧ L = [slH 29 8 a l.length c (flat doC l)]) := by
  have := rget_spec Fr w s hs
  rw [hg] at this
  exact this
theorem rstoodD : Tryd.prog.stoodInHeld 29 = false := by kernel_rfl
theorem rguardD : Tryd.prog.eqGuardType Tryd.prog.depth 29 = false := by kernel_rfl
theorem rdo_eq (d e : DoM) (w : World) : (Op.equal 29 (.agg (doC d).toArray) (.agg (doC e).toArray)).run Tryd.prog w = .ok (doEq d e) w := by
  have hi : ∀ (cs : List Value) (j : Nat) (n : Int), cs[j]? = some (.int .i64 n) → ∀ w : World, (part 3 cs.toArray j).run Tryd.prog w = .ok (.int .i64 n) w := fun cs j n h w => part1 (TabOk.look tabOk (t := 3) (ti := T.t3) rfl) rfl h w
  have hs : ∀ (cs : List Value) (j : Nat) (s : ByteArray), cs[j]? = some (.string s) → ∀ w : World, (part 9 cs.toArray j).run Tryd.prog w = .ok (.string s) w := fun cs j n h w => part1 (TabOk.look tabOk (t := 9) (ti := T.t9) rfl) rfl h w
  have ho : ∀ (x : DoM) (w : World), (part 27 (doC x).toArray 4).run Tryd.prog w = .ok (.agg x.op.cells.toArray) w := fun x w => partA (TabOk.look tabOk (t := 27) (ti := T.t27) rfl) rfl rfl w
  have hop := EqT.st Tryd.underlying27 stood (EqFs.cons (by decide) (hi d.op.cells _ _ rfl) (hi e.op.cells _ _ rfl) (EqT.int Tryd.underlying3 d.op.kind e.op.kind) (EqFs.cons (by decide) (hs _ _ _ rfl) (hs _ _ _ rfl) (EqT.str Tryd.underlying9 d.op.key e.op.key) (EqFs.cons (by decide) (hs _ _ _ rfl) (hs _ _ _ rfl) (EqT.str Tryd.underlying9 d.op.value e.op.value) (EqFs.cons (by decide) (hi _ _ _ rfl) (hi _ _ _ rfl) (EqT.int Tryd.underlying3 d.op.version e.op.version) EqFs.nil))))
  refine EqT.run (EqT.st Tryd.underlying29 rstoodD (EqFs.cons (by decide) (hi _ _ _ rfl) (hi _ _ _ rfl) (EqT.int Tryd.underlying3 d.kind e.kind) (EqFs.cons (by decide) (hi _ _ _ rfl) (hi _ _ _ rfl) (EqT.int Tryd.underlying3 d.a e.a) (EqFs.cons (by decide) (hi _ _ _ rfl) (hi _ _ _ rfl) (EqT.int Tryd.underlying3 d.b e.b) (EqFs.cons (by decide) (hi _ _ _ rfl) (hi _ _ _ rfl) (EqT.int Tryd.underlying3 d.c e.c)
    (EqFs.cons (by decide) (ho d) (ho e) hop EqFs.nil)))))) (by decide) w

set_option maxRecDepth 100000 in
set_option maxHeartbeats 4000000 in
theorem tell_spec (Fr : Nat → Prop) (w : World) {a : Option Addr} {cap : Nat} {l : List DoM} {s : ByteArray} (h : RwIn doC 8 Fr w a l) (hl : l.length ≤ 9223372036854775807) (hI : ∀ d ∈ l, d.I) (hs : s.size ≤ 9223372036854775807) (hG : GlobF Fr w) (hK : KindsF Fr w) :
    Tri Tryd.prog 3 [.slice a l.length cap, .string s] Fr w [] (fun v L => v = .bool true ∧ L = []) := by
  refine Tri.of 110 Tryd.func3 rfl (by kernel_rfl) tabOk rfl rfl ?_
  (repeat (first | refine VC.seq ?_ | refine VC.region ?_ | refine VC.block ?_ | refine VC.label ?_ | refine VC.scope ?_ | refine VO.go (VO.nil ?_) | refine VO.go (VO.ld 0 rfl rfl rfl rfl ?_)))
  refine VO.go (VO.callV' (fun Fr w hF hw _ => sgreat_spec Fr w (h.of hF hw) hl 60) rfl ?_)
  (repeat (first | refine VC.seq ?_ | refine VC.region ?_ | refine VC.block ?_ | refine VC.label ?_ | refine VC.scope ?_ | refine VO.go (VO.nil ?_) | refine VO.go (VO.ld 0 rfl rfl rfl rfl ?_)))
  cases hga : greatD l 60 with
  | true =>
    refine VO.go (VO.yes 16 true rfl rfl ?_)
    (repeat (first | refine VC.seq ?_ | refine VC.region ?_ | refine VC.block ?_ | refine VC.label ?_ | refine VC.scope ?_ | refine VO.go (VO.nil ?_) | refine VO.go (VO.ld 0 rfl rfl rfl rfl ?_) | refine VO.go (VO.offU rfl rfl rfl ?_)))
    refine VC.condT rfl ?_
    (repeat (first | refine VC.seq ?_ | refine VC.region ?_ | refine VC.block ?_ | refine VC.label ?_ | refine VC.scope ?_ | refine VO.go (VO.nil ?_) | refine VO.go (VO.ld 0 rfl rfl rfl rfl ?_)))
    refine VO.go (VO.callV' (fun Fr w hF hw _ => written_spec Fr w (GlobF.st (X := ⟨Tryd.prog, tab, tabOk, 110, _, _⟩) hG hF hw) (KindsF.st (X := ⟨Tryd.prog, tab, tabOk, 110, _, _⟩) hK hF hw)) rfl ?_)
    (repeat (first | refine VC.seq ?_ | refine VC.region ?_ | refine VC.block ?_ | refine VC.label ?_ | refine VC.scope ?_ | refine VO.go (VO.nil ?_) | refine VO.go (VO.ld 0 rfl rfl rfl rfl ?_)))
    exact VC.ret (Ret.tmp 4 rfl rfl Imp.nil.ent ⟨rfl, rfl⟩)
  | false =>
  refine VO.go (VO.yes 16 false rfl rfl ?_)
  (repeat (first | refine VC.seq ?_ | refine VC.region ?_ | refine VC.block ?_ | refine VC.label ?_ | refine VC.scope ?_ | refine VO.go (VO.nil ?_) | refine VO.go (VO.ld 0 rfl rfl rfl rfl ?_) | refine VO.go (VO.offU rfl rfl rfl ?_)))
  refine VC.condP rfl (fun hgs => ?_) (fun hgs => VC.skip ?_)
  · (repeat (first | refine VC.seq ?_ | refine VC.region ?_ | refine VC.block ?_ | refine VC.label ?_ | refine VC.scope ?_ | refine VO.go (VO.nil ?_) | refine VO.go (VO.ld 0 rfl rfl rfl rfl ?_)))
    refine VO.go (VO.callV' (fun Fr w hF hw _ => written_spec Fr w (GlobF.st (X := ⟨Tryd.prog, tab, tabOk, 110, _, _⟩) hG hF hw) (KindsF.st (X := ⟨Tryd.prog, tab, tabOk, 110, _, _⟩) hK hF hw)) rfl ?_)
    (repeat (first | refine VC.seq ?_ | refine VC.region ?_ | refine VC.block ?_ | refine VC.label ?_ | refine VC.scope ?_ | refine VO.go (VO.nil ?_) | refine VO.go (VO.ld 0 rfl rfl rfl rfl ?_)))
    exact VC.ret (Ret.tmp 4 rfl rfl Imp.nil.ent ⟨rfl, rfl⟩)
  have hs2 : s.size ≤ 2000 := by omega
  obtain ⟨hl60, hsz⟩ := greatD_no hga
  have hok : ∀ d ∈ l, d.Ok := fun d hd => ⟨(hI d hd).kind, (hI d hd).a, (hI d hd).b, (hI d hd).c, (hI d hd).opk, (hI d hd).opv, by have := hsz d hd; omega, by have := hsz d hd; omega⟩
  (repeat (first | refine VC.seq ?_ | refine VC.region ?_ | refine VC.block ?_ | refine VC.label ?_ | refine VC.scope ?_ | refine VO.go (VO.nil ?_) | refine VO.go (VO.ld 0 rfl rfl rfl rfl ?_)))
  refine VC.loop (σ := Nat × Option Addr × Nat) (fun x => [(0, .slice a l.length cap), (1, .string s), (5, .slice x.2.1 x.1 x.2.2), (6, .int .i64 x.1)]) (fun x => [slH 29 8 x.2.1 x.1 x.2.2 (flat doC (l.take x.1))]) (fun x => x.1 ≤ l.length) (fun x => l.length - x.1) (0, none, 0)
    (Nat.zero_le _) (Sub.cons rfl (Sub.cons rfl (Sub.cons rfl (Sub.cons rfl (Sub.nil _))))) (Imp.slNil Imp.nil).ent ?_
  rintro ⟨i, a1, c1⟩ hi
  dsimp only at hi ⊢
  (repeat (first | refine VC.seq ?_ | refine VC.region ?_ | refine VC.block ?_ | refine VC.label ?_ | refine VC.scope ?_ | refine VO.go (VO.nil ?_) | refine VO.go (VO.ld 0 rfl rfl rfl rfl ?_)))
  refine VC.condP rfl (fun h1 => VC.skip ?_) (fun h1 => VC.exit ?_)
  · have hi2 : i < l.length := by omega
    obtain ⟨d, hd⟩ : ∃ d, l[i]? = some d := ⟨_, List.getElem?_eq_getElem hi2⟩
    obtain ⟨fb, fo, rfl, ra, rc⟩ := RwIn.rd (X := ⟨Tryd.prog, tab, tabOk, 110, Fr, w⟩) h hd
    have htk : l.take (i + 1) = l.take i ++ [d] := by rw [List.take_add_one, hd]; rfl
    have hlt : (l.take (i + 1)).length = i + 1 := by rw [List.length_take]; omega
    (repeat (first | refine VC.seq ?_ | refine VC.region ?_ | refine VC.block ?_ | refine VC.label ?_ | refine VC.scope ?_ | refine VO.go (VO.nil ?_) | refine VO.go (VO.ld 0 rfl rfl rfl rfl ?_)))
    refine VO.go (VO.light (light_idx i rfl rfl rfl rfl rfl rfl hi2) ?_)
    refine VO.go (VO.load rfl rfl (ra _ _ rfl rfl) ?_)
    refine VO.go (VO.buildSlice (n := 1) (pv := [(0, .agg (doC d).toArray)]) (doC d) rfl rfl rfl rfl (by decide) (fill_one rfl rfl rfl) fun nb => ?_)
    refine VO.go (VO.append (m := 1) (news := doC d) 1 rfl rfl rfl rfl rfl rfl rfl (RdRow.pt 0 rfl rfl rfl) rfl (by show (i + 1) * 80 ≤ _; omega) (by omega) fun a2 c2 hc2 => ?_)
    obtain ⟨T, hT⟩ : ∃ T, T = l.take (i + 1) := ⟨_, rfl⟩
    rw [← hT] at hlt
    rw [show flat doC (l.take i) ++ doC d = flat doC T by rw [hT, htk, flat_append, flat_cons, flat_nil, List.append_nil], ← hlt]
    refine VO.opn 0 rfl (HOpn.sl _ _ _ _ _ _) ?_
    rintro (_ | ⟨tb, rest⟩) ⟨hx1, hx2, hx3⟩
    · obtain ⟨_, h0, _⟩ := hx3; omega
    obtain ⟨rfl, hx4⟩ := hx3
    dsimp only
    have hTr : ∀ k x, T[k]? = some x → ((flat doC T ++ rest).drop (0 + k * 8)).take 8 = doC x := fun k x hx => by rw [Nat.zero_add]; exact flat_row doC_len hx rest
    have hTi : T[i]? = some d := by rw [hT, List.getElem?_take, if_pos (by omega), hd]
    have hti := hTr i d hTi
    refine VO.go (VO.nil ?_)
    refine VC.seq (VC.draw (ts 0 12 (ts 13 9 (.only 12 (.only 22 (ts 23 2 .nil))))) (by kernel_rfl) (by decide +kernel) ?_)
    (repeat (first | refine VA.go (VA.nil ?_) | refine VA.go (VA.ld 0 rfl rfl rfl rfl rfl ?_) | refine VA.go (VA.offU rfl rfl rfl rfl ?_)))
    by_cases hi0 : i = 0
    · refine VA.go (VA.yes 37 false rfl (decide_eq_false (by omega)) ?_)
      (repeat (first | refine VA.go (VA.nil ?_) | refine VA.go (VA.ld 0 rfl rfl rfl rfl rfl ?_) | refine VA.go (VA.offU rfl rfl rfl rfl ?_)))
      refine VA.go (VA.offO rfl rfl ?_)
      refine VA.go (VA.offO rfl rfl ?_)
      (repeat (first | refine VA.go (VA.nil ?_) | refine VA.go (VA.ld 0 rfl rfl rfl rfl rfl ?_) | refine VA.go (VA.offU rfl rfl rfl rfl ?_)))
      refine VC.condF rfl (VC.skip ?_)
      (repeat (first | refine VC.seq ?_ | refine VC.region ?_ | refine VC.block ?_ | refine VC.label ?_ | refine VC.scope ?_ | refine VO.go (VO.nil ?_) | refine VO.go (VO.ld 0 rfl rfl rfl rfl ?_)))
      refine VO.go (VO.add rfl rfl (by omega) (by omega) ?_)
      (repeat (first | refine VC.seq ?_ | refine VC.region ?_ | refine VC.block ?_ | refine VC.label ?_ | refine VC.scope ?_ | refine VO.go (VO.nil ?_) | refine VO.go (VO.ld 0 rfl rfl rfl rfl ?_)))
      refine ⟨(i + 1, some ⟨tb, 0, none⟩, c2), hi2, by dsimp only; omega, Sub.cons rfl (Sub.cons rfl (Sub.cons (by rw [← hlt]; rfl) (Sub.cons rfl (Sub.nil _)))), ?_⟩
      dsimp only
      rw [← hT, ← hlt]
      exact (Imp.sl hx1 hx2 hx4 (Imp.pick 0 rfl Imp.nil)).ent
    · obtain ⟨j, rfl⟩ : ∃ j, i = j + 1 := ⟨i - 1, by omega⟩
      obtain ⟨e, he⟩ : ∃ e, l[j]? = some e := ⟨_, List.getElem?_eq_getElem (by omega)⟩
      have hTj : T[j]? = some e := by rw [hT, List.getElem?_take, if_pos (by omega), he]
      have htj := hTr j e hTj
      have hdk := hok d (List.mem_of_getElem? hd)
      have hek := hok e (List.mem_of_getElem? he)
      obtain ⟨fb2, fo2, q1, ra2, rc2⟩ := RwIn.rd (X := ⟨Tryd.prog, tab, tabOk, 110, Fr, w⟩) h he
      cases q1
      refine VA.go (VA.yes 37 true rfl (decide_eq_true (by omega)) ?_)
      (repeat (first | refine VA.go (VA.nil ?_) | refine VA.go (VA.ld 0 rfl rfl rfl rfl rfl ?_) | refine VA.go (VA.offU rfl rfl rfl rfl ?_)))
      refine VA.go (VA.sub' rfl rfl rfl (by omega) (by omega) ?_)
      refine VA.go (VA.light rfl (light_idx j rfl rfl rfl rfl rfl (by omega) (by omega)) ?_)
      refine VA.go (VA.load rfl rfl rfl (ra2 _ _ rfl rfl) ?_)
      (repeat (first | refine VA.go (VA.nil ?_) | refine VA.go (VA.ld 0 rfl rfl rfl rfl rfl ?_) | refine VA.go (VA.offU rfl rfl rfl rfl ?_)))
      refine VA.go (VA.light rfl (light_idx (j + 1) rfl rfl rfl rfl rfl rfl hi2) ?_)
      refine VA.go (VA.load rfl rfl rfl (ra _ _ rfl rfl) ?_)
      (repeat (first | refine VA.go (VA.nil ?_) | refine VA.go (VA.ld 0 rfl rfl rfl rfl rfl ?_) | refine VA.go (VA.offU rfl rfl rfl rfl ?_)))
      refine VA.go (VA.sub' rfl rfl rfl (by omega) (by omega) ?_)
      refine VA.go (VA.light rfl (light_idx j rfl rfl rfl rfl rfl (by omega) (by omega)) ?_)
      refine VA.go (VA.load rfl rfl rfl (RdL.many 0 rfl htj) ?_)
      (repeat (first | refine VA.go (VA.nil ?_) | refine VA.go (VA.ld 0 rfl rfl rfl rfl rfl ?_) | refine VA.go (VA.offU rfl rfl rfl rfl ?_)))
      refine VA.go (VA.light rfl (light_idx (j + 1) rfl rfl rfl rfl rfl rfl (by omega)) ?_)
      refine VA.go (VA.load rfl rfl rfl (RdL.many 0 rfl hti) ?_)
      refine VA.go (VA.callR (fun Fr w hF hs hS => same_spec Fr w e d (KindsF.st (X := ⟨Tryd.prog, tab, tabOk, 110, _, _⟩) hK hF hs)) rfl rfl (by (try refine Pd.st ?_); (repeat (first | exact Pd.nil | exact Pd.fnil | refine Pd.inner ?_ | refine Pd.skip (by decide +kernel) ?_ | refine Pd.fcons (RdL.blk (ra _ _ rfl rfl) rfl) ?_ | refine Pd.fcons (RdL.blk (ra2 _ _ rfl rfl) rfl) ?_ | refine Pd.fcons (RdL.blk (RdL.many 0 rfl hti) rfl) ?_ | refine Pd.fcons (RdL.blk (RdL.many 0 rfl htj) rfl) ?_ | refine Pd.fcons ((ra _ _ rfl rfl)) ?_ | refine Pd.fcons ((ra2 _ _ rfl rfl)) ?_ | refine Pd.fcons ((RdL.many 0 rfl hti)) ?_ | refine Pd.fcons ((RdL.many 0 rfl htj)) ?_ | refine Pd.cons (RdL.blk (ra _ _ rfl rfl) rfl) ?_ | refine Pd.cons (RdL.blk (ra2 _ _ rfl rfl) rfl) ?_ | refine Pd.cons (RdL.blk (RdL.many 0 rfl hti) rfl) ?_ | refine Pd.cons (RdL.blk (RdL.many 0 rfl htj) rfl) ?_ | refine Pd.cons ((ra _ _ rfl rfl)) ?_ | refine Pd.cons ((ra2 _ _ rfl rfl)) ?_ | refine Pd.cons ((RdL.many 0 rfl hti)) ?_ | refine Pd.cons ((RdL.many 0 rfl htj)) ?_ | refine Pd.fconsM ((ra _ _ rfl rfl)) ?_ | refine Pd.fconsM ((ra2 _ _ rfl rfl)) ?_ | refine Pd.fconsM ((RdL.many 0 rfl hti)) ?_ | refine Pd.fconsM ((RdL.many 0 rfl htj)) ?_ | refine Pd.consM ((ra _ _ rfl rfl)) ?_ | refine Pd.consM ((ra2 _ _ rfl rfl)) ?_ | refine Pd.consM ((RdL.many 0 rfl hti)) ?_ | refine Pd.consM ((RdL.many 0 rfl htj)) ?_))) ?_)
      refine VA.go (VA.callR (fun Fr w hF hs hS => rsame_spec Fr w hek hdk) rfl rfl (by (try refine Pd.st ?_); (repeat (first | exact Pd.nil | exact Pd.fnil | refine Pd.inner ?_ | refine Pd.skip (by decide +kernel) ?_ | refine Pd.fcons (RdL.blk (ra _ _ rfl rfl) rfl) ?_ | refine Pd.fcons (RdL.blk (ra2 _ _ rfl rfl) rfl) ?_ | refine Pd.fcons (RdL.blk (RdL.many 0 rfl hti) rfl) ?_ | refine Pd.fcons (RdL.blk (RdL.many 0 rfl htj) rfl) ?_ | refine Pd.fcons ((ra _ _ rfl rfl)) ?_ | refine Pd.fcons ((ra2 _ _ rfl rfl)) ?_ | refine Pd.fcons ((RdL.many 0 rfl hti)) ?_ | refine Pd.fcons ((RdL.many 0 rfl htj)) ?_ | refine Pd.cons (RdL.blk (ra _ _ rfl rfl) rfl) ?_ | refine Pd.cons (RdL.blk (ra2 _ _ rfl rfl) rfl) ?_ | refine Pd.cons (RdL.blk (RdL.many 0 rfl hti) rfl) ?_ | refine Pd.cons (RdL.blk (RdL.many 0 rfl htj) rfl) ?_ | refine Pd.cons ((ra _ _ rfl rfl)) ?_ | refine Pd.cons ((ra2 _ _ rfl rfl)) ?_ | refine Pd.cons ((RdL.many 0 rfl hti)) ?_ | refine Pd.cons ((RdL.many 0 rfl htj)) ?_ | refine Pd.fconsM ((ra _ _ rfl rfl)) ?_ | refine Pd.fconsM ((ra2 _ _ rfl rfl)) ?_ | refine Pd.fconsM ((RdL.many 0 rfl hti)) ?_ | refine Pd.fconsM ((RdL.many 0 rfl htj)) ?_ | refine Pd.consM ((ra _ _ rfl rfl)) ?_ | refine Pd.consM ((ra2 _ _ rfl rfl)) ?_ | refine Pd.consM ((RdL.many 0 rfl hti)) ?_ | refine Pd.consM ((RdL.many 0 rfl htj)) ?_))) ?_)
      (repeat (first | refine VA.go (VA.nil ?_) | refine VA.go (VA.ld 0 rfl rfl rfl rfl rfl ?_) | refine VA.go (VA.offU rfl rfl rfl rfl ?_)))
      refine VC.cond (t := false) (by simp [Vg.ev, Vg.look]) (fun hh => by cases hh) (fun _ => VC.skip ?_)
      (repeat (first | refine VC.seq ?_ | refine VC.region ?_ | refine VC.block ?_ | refine VC.label ?_ | refine VC.scope ?_ | refine VO.go (VO.nil ?_) | refine VO.go (VO.ld 0 rfl rfl rfl rfl ?_)))
      refine VO.go (VO.add rfl rfl (by omega) (by omega) ?_)
      (repeat (first | refine VC.seq ?_ | refine VC.region ?_ | refine VC.block ?_ | refine VC.label ?_ | refine VC.scope ?_ | refine VO.go (VO.nil ?_) | refine VO.go (VO.ld 0 rfl rfl rfl rfl ?_)))
      refine ⟨(j + 1 + 1, some ⟨tb, 0, none⟩, c2), hi2, by dsimp only; omega, Sub.cons rfl (Sub.cons rfl (Sub.cons (by rw [← hlt]; rfl) (Sub.cons rfl (Sub.nil _)))), ?_⟩
      dsimp only
      rw [← hT, ← hlt]
      exact (Imp.sl hx1 hx2 hx4 (Imp.pick 0 rfl Imp.nil)).ent
  · obtain rfl : i = l.length := by omega
    rw [List.take_length]
    obtain ⟨z, n, e, hg⟩ : ∃ z n e, getM s = (z, n, e) := ⟨_, _, _, rfl⟩
    have hzl : z.length ≤ 2000 := by
      have hb := getR_back (f := s.size + 1) (s := s.data.toList) (by rw [data_len]; omega) hg
      rw [data_len] at hb
      rcases hb with ⟨_, _, _, _, r5⟩ | ⟨_, _, rfl⟩
      · simp at r5; omega
      · simp
    (repeat (first | refine VC.seq ?_ | refine VC.region ?_ | refine VC.block ?_ | refine VC.label ?_ | refine VC.scope ?_ | refine VO.go (VO.nil ?_) | refine VO.go (VO.ld 0 rfl rfl rfl rfl ?_)))
    refine VO.go (VO.call (Lc := []) (fun Fr w hF hw _ => get_at Fr w hg (by omega) (GlobF.st (X := ⟨Tryd.prog, tab, tabOk, 110, _, _⟩) hG hF hw) (KindsF.st (X := ⟨Tryd.prog, tab, tabOk, 110, _, _⟩) hK hF hw)) rfl rfl ?_)
    rintro _ _ ⟨xa, xc, rfl, rfl⟩
    (repeat (first | refine VC.seq ?_ | refine VC.region ?_ | refine VC.block ?_ | refine VC.label ?_ | refine VC.scope ?_ | refine VO.go (VO.nil ?_) | refine VO.go (VO.ld 0 rfl rfl rfl rfl ?_)))
    refine VO.go (VO.call (Lc := []) (fun Fr w hF hw _ => rget_at Fr w hg hs2) rfl rfl ?_)
    rintro _ _ ⟨ya, yc, rfl, rfl⟩
    (repeat (first | refine VC.seq ?_ | refine VC.region ?_ | refine VC.block ?_ | refine VC.label ?_ | refine VC.scope ?_ | refine VO.go (VO.nil ?_) | refine VO.go (VO.ld 0 rfl rfl rfl rfl ?_)))
    refine VO.go (VO.callV' (fun Fr w hF hw _ => put_spec Fr w (h.of hF hw) (by omega) hok (TabF.st rfl hG.tab hF hw) (KindsF.st (X := ⟨Tryd.prog, tab, tabOk, 110, _, _⟩) hK hF hw)) rfl ?_)
    (repeat (first | refine VC.seq ?_ | refine VC.region ?_ | refine VC.block ?_ | refine VC.label ?_ | refine VC.scope ?_ | refine VO.go (VO.nil ?_) | refine VO.go (VO.ld 0 rfl rfl rfl rfl ?_)))
    refine VO.go (VO.callV' (fun Fr w hF hw hS => rput_spec Fr w (RwIn.sl (cap := c1) doC_len (hS.at_ 2 rfl)) (by omega) hok) rfl ?_)
    (repeat (first | refine VC.seq ?_ | refine VC.region ?_ | refine VC.block ?_ | refine VC.label ?_ | refine VC.scope ?_ | refine VO.go (VO.nil ?_) | refine VO.go (VO.ld 0 rfl rfl rfl rfl ?_)))
    refine VO.go (VO.yes 77 false rfl (by simp) ?_)
    (repeat (first | refine VC.seq ?_ | refine VC.region ?_ | refine VC.block ?_ | refine VC.label ?_ | refine VC.scope ?_ | refine VO.go (VO.nil ?_) | refine VO.go (VO.ld 0 rfl rfl rfl rfl ?_) | refine VO.go (VO.offU rfl rfl rfl ?_)))
    refine VO.go (VO.yes 82 false rfl (by simp) ?_)
    (repeat (first | refine VC.seq ?_ | refine VC.region ?_ | refine VC.block ?_ | refine VC.label ?_ | refine VC.scope ?_ | refine VO.go (VO.nil ?_) | refine VO.go (VO.ld 0 rfl rfl rfl rfl ?_) | refine VO.go (VO.offU rfl rfl rfl ?_)))
    refine VO.go (VO.yes 87 false rfl (by simp) ?_)
    (repeat (first | refine VC.seq ?_ | refine VC.region ?_ | refine VC.block ?_ | refine VC.label ?_ | refine VC.scope ?_ | refine VO.go (VO.nil ?_) | refine VO.go (VO.ld 0 rfl rfl rfl rfl ?_) | refine VO.go (VO.offU rfl rfl rfl ?_)))
    refine VC.cond (t := false) (by simp [Vg.ev, Vg.look]) (fun hh => by cases hh) (fun _ => VC.skip ?_)
    refine VC.opn 0 rfl (HOpn.rl _ ya yc z doC_len) ?_
    rintro ry ⟨yok, hvy, hxy⟩
    refine VC.opn 1 rfl (HOpn.rl _ xa xc z doC_len) ?_
    rintro rx ⟨xok, hvx, hxx⟩
    (repeat (first | refine VC.seq ?_ | refine VC.region ?_ | refine VC.block ?_ | refine VC.label ?_ | refine VC.scope ?_ | refine VO.go (VO.nil ?_) | refine VO.go (VO.ld 0 rfl rfl rfl rfl ?_)))
    refine VC.loop (σ := Nat) (fun j => [(7, .slice xa z.length xc), (10, .slice ya z.length yc), (13, .int .i64 j)]) (fun _ => [rx.h 30, ry.h 29]) (fun j => j ≤ z.length) (fun j => z.length - j) 0
      (Nat.zero_le _) (Sub.cons rfl (Sub.cons rfl (Sub.cons rfl (Sub.nil _)))) (Imp.pick 0 rfl (Imp.pick 0 rfl Imp.nil)).ent ?_
    intro j hj
    (repeat (first | refine VC.seq ?_ | refine VC.region ?_ | refine VC.block ?_ | refine VC.label ?_ | refine VC.scope ?_ | refine VO.go (VO.nil ?_) | refine VO.go (VO.ld 0 rfl rfl rfl rfl ?_)))
    refine VC.condP rfl (fun h2 => VC.skip ?_) (fun h2 => VC.exit ?_)
    · have hj2 : j < z.length := by omega
      obtain ⟨d, hd⟩ : ∃ d, z[j]? = some d := ⟨_, List.getElem?_eq_getElem hj2⟩
      obtain ⟨xb, xo, x1, x2, hrx⟩ := xok.ld (t := 30) (hxx ▸ hd) rfl
      obtain rfl : xa = some ⟨xb, xo, none⟩ := by rw [RL.v, x2, hxx] at hvx; injection hvx with e1; exact e1.symm
      obtain ⟨yb, yo, y1, y2, hry⟩ := yok.ld (t := 29) (hxy ▸ hd) rfl
      obtain rfl : ya = some ⟨yb, yo, none⟩ := by rw [RL.v, y2, hxy] at hvy; injection hvy with e1; exact e1.symm
      refine VC.seq (VC.block (VC.seq (VC.draw (ts 0 9 .nil) (by kernel_rfl) (by decide +kernel) ?_)))
      (repeat (first | refine VA.go (VA.nil ?_) | refine VA.go (VA.ld 0 rfl rfl rfl rfl rfl ?_) | refine VA.go (VA.offU rfl rfl rfl rfl ?_)))
      refine VA.go (VA.light rfl (light_idx j rfl rfl rfl rfl rfl rfl hj2) ?_)
      refine VA.go (VA.load rfl rfl rfl ((hrx 0 rfl).1 _ rfl rfl) ?_)
      (repeat (first | refine VA.go (VA.nil ?_) | refine VA.go (VA.ld 0 rfl rfl rfl rfl rfl ?_) | refine VA.go (VA.offU rfl rfl rfl rfl ?_)))
      refine VA.go (VA.light rfl (light_idx j rfl rfl rfl rfl rfl rfl hj2) ?_)
      refine VA.go (VA.load rfl rfl rfl ((hry 1 rfl).1 _ rfl rfl) ?_)
      refine VA.go (VA.light rfl (light_neS rguardD rfl rfl (rdo_eq d d)) ?_)
      rw [doEq_self]
      (repeat (first | refine VA.go (VA.nil ?_) | refine VA.go (VA.ld 0 rfl rfl rfl rfl rfl ?_) | refine VA.go (VA.offU rfl rfl rfl rfl ?_)))
      refine VC.condF rfl (VC.skip ?_)
      (repeat (first | refine VC.seq ?_ | refine VC.region ?_ | refine VC.block ?_ | refine VC.label ?_ | refine VC.scope ?_ | refine VO.go (VO.nil ?_) | refine VO.go (VO.ld 0 rfl rfl rfl rfl ?_)))
      refine VO.go (VO.add rfl rfl (by omega) (by omega) ?_)
      (repeat (first | refine VC.seq ?_ | refine VC.region ?_ | refine VC.block ?_ | refine VC.label ?_ | refine VC.scope ?_ | refine VO.go (VO.nil ?_) | refine VO.go (VO.ld 0 rfl rfl rfl rfl ?_)))
      exact ⟨j + 1, hj2, by dsimp only; omega, Sub.cons rfl (Sub.cons rfl (Sub.cons rfl (Sub.nil _))), Ent.refl⟩
    · (repeat (first | refine VC.seq ?_ | refine VC.region ?_ | refine VC.block ?_ | refine VC.label ?_ | refine VC.scope ?_ | refine VO.go (VO.nil ?_) | refine VO.go (VO.ld 0 rfl rfl rfl rfl ?_)))
      refine VO.go (VO.callV' (fun Fr w hF hw _ => written_spec Fr w (GlobF.st (X := ⟨Tryd.prog, tab, tabOk, 110, _, _⟩) hG hF hw) (KindsF.st (X := ⟨Tryd.prog, tab, tabOk, 110, _, _⟩) hK hF hw)) rfl ?_)
      (repeat (first | refine VC.seq ?_ | refine VC.region ?_ | refine VC.block ?_ | refine VC.label ?_ | refine VC.scope ?_ | refine VO.go (VO.nil ?_) | refine VO.go (VO.ld 0 rfl rfl rfl rfl ?_)))
      exact VC.ret (Ret.tmp 4 rfl rfl Imp.nil.ent ⟨rfl, rfl⟩)
end Go.Proofs.YtceobomlmdmicaaDoor.Scr
