/- Layer 33: what a call is; whether it may come next; what a store has, as a text. No condition but the table of powers of ten. -/
import Derived.Test.YthabecjplpomhaaDoorBrP
namespace Go.Proofs.YthabecjplpomhaaDoor.Br
open Go Go.Proofs.YthabecjplpomhaaDoor.Vg Go.Proofs.YthabecjplpomhaaDoor.T Go.Proofs.YthabecjplpomhaaDoor.Api Go.Proofs.YthabecjplpomhaaDoor.Kv Go.Proofs.YthabecjplpomhaaDoor.LibC
set_option linter.unusedSimpArgs false
set_option linter.unusedVariables false
attribute [local irreducible] VO VC VA

set_option maxRecDepth 100000 in
theorem isDone_spec (Fr : Nat → Prop) (w : World) (r : RecM) : Tri Tryd.prog 27 [.agg (recC r).toArray] Fr w [] (fun v L => v = .bool r.done ∧ L = []) := by
  refine Tri.of 7 Tryd.func27 rfl (by kernel_rfl) tabOk rfl rfl ?_
  refine VC.seq (VC.region (VO.go (VO.boxA (vs := recC r) rfl (fun b => VO.go (VO.nil ?_)))))
  (repeat (first | refine VC.seq ?_ | refine VC.region ?_ | refine VC.block ?_ | refine VC.label ?_ | refine VC.scope ?_ | refine VO.go (VO.nil ?_) | refine VO.go (VO.ld 0 rfl rfl rfl rfl ?_) | refine VO.go (VO.offU rfl rfl rfl ?_)))
  exact VC.ret (Ret.tmp 2 rfl rfl Imp.nil.ent ⟨rfl, rfl⟩)

set_option maxRecDepth 100000 in
theorem mayStand_spec (Fr : Nat → Prop) (w : World) (r : RecM) : Tri Tryd.prog 35 [.agg (recC r).toArray] Fr w [] (fun v L => v = .bool r.stand ∧ L = []) := by
  refine Tri.of 17 Tryd.func35 rfl (by kernel_rfl) tabOk rfl rfl ?_
  refine VC.seq (VC.region (VO.go (VO.boxA (vs := recC r) rfl (fun b => VO.go (VO.nil ?_)))))
  (repeat (first | refine VC.seq ?_ | refine VC.region ?_ | refine VC.block ?_ | refine VC.label ?_ | refine VC.scope ?_ | refine VO.go (VO.nil ?_) | refine VO.go (VO.ld 0 rfl rfl rfl rfl ?_) | refine VO.go (VO.offU rfl rfl rfl ?_)))
  refine VO.go (VO.ldA 0 (recC r) rfl rfl rfl rfl ?_)
  refine VO.go (VO.callV (fun Fr w => isDone_spec Fr w r) rfl ?_)
  (repeat (first | refine VC.seq ?_ | refine VC.region ?_ | refine VC.block ?_ | refine VC.label ?_ | refine VC.scope ?_ | refine VO.go (VO.nil ?_) | refine VO.go (VO.ld 0 rfl rfl rfl rfl ?_) | refine VO.go (VO.offU rfl rfl rfl ?_)))
  refine VO.go (VO.split 5 rfl rfl (fun h1 => ?_) (fun h1 => ?_))
  · (repeat (first | refine VC.seq ?_ | refine VC.region ?_ | refine VC.block ?_ | refine VC.label ?_ | refine VC.scope ?_ | refine VO.go (VO.nil ?_) | refine VO.go (VO.ld 0 rfl rfl rfl rfl ?_) | refine VO.go (VO.offU rfl rfl rfl ?_)))
    exact VC.ret (Ret.bool 2 rfl rfl (by simp [RecM.stand, h1]) Imp.nil.ent ⟨rfl, rfl⟩)
  · (repeat (first | refine VC.seq ?_ | refine VC.region ?_ | refine VC.block ?_ | refine VC.label ?_ | refine VC.scope ?_ | refine VO.go (VO.nil ?_) | refine VO.go (VO.ld 0 rfl rfl rfl rfl ?_) | refine VO.go (VO.offU rfl rfl rfl ?_)))
    refine VO.go (VO.split 10 rfl rfl (fun h2 => ?_) (fun h2 => ?_))
    · (repeat (first | refine VC.seq ?_ | refine VC.region ?_ | refine VC.block ?_ | refine VC.label ?_ | refine VC.scope ?_ | refine VO.go (VO.nil ?_) | refine VO.go (VO.ld 0 rfl rfl rfl rfl ?_) | refine VO.go (VO.offU rfl rfl rfl ?_)))
      refine VO.go (VO.ldA 0 r.op.cells rfl rfl rfl rfl ?_)
      refine VO.go (VO.callV (fun Fr w => reads_spec Fr w r.op) rfl ?_)
      (repeat (first | refine VC.seq ?_ | refine VC.region ?_ | refine VC.block ?_ | refine VC.label ?_ | refine VC.scope ?_ | refine VO.go (VO.nil ?_) | refine VO.go (VO.ld 0 rfl rfl rfl rfl ?_) | refine VO.go (VO.offU rfl rfl rfl ?_)))
      exact VC.ret (Ret.bool 2 rfl rfl (by simp [RecM.stand, h1, h2, reads]) Imp.nil.ent ⟨rfl, rfl⟩)
    · (repeat (first | refine VC.seq ?_ | refine VC.region ?_ | refine VC.block ?_ | refine VC.label ?_ | refine VC.scope ?_ | refine VO.go (VO.nil ?_) | refine VO.go (VO.ld 0 rfl rfl rfl rfl ?_) | refine VO.go (VO.offU rfl rfl rfl ?_)))
      exact VC.ret (Ret.bool 2 rfl rfl (by simp [RecM.stand, h1, h2]) Imp.nil.ent ⟨rfl, rfl⟩)

set_option maxRecDepth 100000 in
theorem tells_spec (Fr : Nat → Prop) (w : World) (r : RecM) (x : ResM) : Tri Tryd.prog 38 [.agg (recC r).toArray, .agg (resC x).toArray] Fr w [] (fun v L => v = .bool (tells r x) ∧ L = []) := by
  refine Tri.of 33 Tryd.func38 rfl (by kernel_rfl) tabOk rfl rfl ?_
  refine VC.seq (VC.region (VO.go (VO.boxA (vs := recC r) rfl (fun b => VO.go (VO.boxA (vs := resC x) rfl fun c => VO.go (VO.nil ?_))))))
  (repeat (first | refine VC.seq ?_ | refine VC.region ?_ | refine VC.block ?_ | refine VC.label ?_ | refine VC.scope ?_ | refine VO.go (VO.nil ?_) | refine VO.go (VO.ld 0 rfl rfl rfl rfl ?_) | refine VO.go (VO.offU rfl rfl rfl ?_)))
  refine VO.go (VO.ldA 1 (resC r.res) rfl rfl rfl rfl ?_)
  refine VO.go (VO.alloc rfl fun q => ?_)
  refine VO.go (VO.stA (vs := resC r.res) 0 rfl rfl rfl rfl (Nat.le_refl _) rfl rfl rfl ?_)
  (repeat (first | refine VC.seq ?_ | refine VC.region ?_ | refine VC.block ?_ | refine VC.label ?_ | refine VC.scope ?_ | refine VO.go (VO.nil ?_) | refine VO.go (VO.ld 0 rfl rfl rfl rfl ?_) | refine VO.go (VO.ld 1 rfl rfl rfl rfl ?_) | refine VO.go (VO.ld 2 rfl rfl rfl rfl ?_) | refine VO.go (VO.offU rfl rfl rfl ?_)))
  refine VO.go (VO.ldA 2 (recC r) rfl rfl rfl rfl ?_)
  refine VO.go (VO.callV (fun Fr w => isDone_spec Fr w r) rfl ?_)
  (repeat (first | refine VC.seq ?_ | refine VC.region ?_ | refine VC.block ?_ | refine VC.label ?_ | refine VC.scope ?_ | refine VO.go (VO.nil ?_) | refine VO.go (VO.ld 0 rfl rfl rfl rfl ?_) | refine VO.go (VO.ld 1 rfl rfl rfl rfl ?_) | refine VO.go (VO.ld 2 rfl rfl rfl rfl ?_) | refine VO.go (VO.offU rfl rfl rfl ?_)))
  refine VO.go (VO.split 12 rfl rfl (fun h1 => ?_) (fun h1 => ?_))
  · (repeat (first | refine VC.seq ?_ | refine VC.region ?_ | refine VC.block ?_ | refine VC.label ?_ | refine VC.scope ?_ | refine VO.go (VO.nil ?_) | refine VO.go (VO.ld 0 rfl rfl rfl rfl ?_) | refine VO.go (VO.ld 1 rfl rfl rfl rfl ?_) | refine VO.go (VO.ld 2 rfl rfl rfl rfl ?_) | refine VO.go (VO.offU rfl rfl rfl ?_)))
    exact VC.ret (Ret.bool 4 rfl rfl (by simp_all [tells]) Imp.nil.ent ⟨rfl, rfl⟩)
  · (repeat (first | refine VC.seq ?_ | refine VC.region ?_ | refine VC.block ?_ | refine VC.label ?_ | refine VC.scope ?_ | refine VO.go (VO.nil ?_) | refine VO.go (VO.ld 0 rfl rfl rfl rfl ?_) | refine VO.go (VO.ld 1 rfl rfl rfl rfl ?_) | refine VO.go (VO.ld 2 rfl rfl rfl rfl ?_) | refine VO.go (VO.offU rfl rfl rfl ?_)))
    refine VO.go (VO.split 18 rfl rfl (fun h2 => ?_) (fun h2 => ?_))
    · (repeat (first | refine VC.seq ?_ | refine VC.region ?_ | refine VC.block ?_ | refine VC.label ?_ | refine VC.scope ?_ | refine VO.go (VO.nil ?_) | refine VO.go (VO.ld 0 rfl rfl rfl rfl ?_) | refine VO.go (VO.ld 1 rfl rfl rfl rfl ?_) | refine VO.go (VO.ld 2 rfl rfl rfl rfl ?_) | refine VO.go (VO.offU rfl rfl rfl ?_)))
      refine VO.go (VO.split 25 rfl rfl (fun h3 => ?_) (fun h3 => ?_))
      · (repeat (first | refine VC.seq ?_ | refine VC.region ?_ | refine VC.block ?_ | refine VC.label ?_ | refine VC.scope ?_ | refine VO.go (VO.nil ?_) | refine VO.go (VO.ld 0 rfl rfl rfl rfl ?_) | refine VO.go (VO.ld 1 rfl rfl rfl rfl ?_) | refine VO.go (VO.ld 2 rfl rfl rfl rfl ?_) | refine VO.go (VO.offU rfl rfl rfl ?_)))
        exact VC.ret (Ret.bool 4 rfl rfl (by simp_all [tells]) Imp.nil.ent ⟨rfl, rfl⟩)
      · (repeat (first | refine VC.seq ?_ | refine VC.region ?_ | refine VC.block ?_ | refine VC.label ?_ | refine VC.scope ?_ | refine VO.go (VO.nil ?_) | refine VO.go (VO.ld 0 rfl rfl rfl rfl ?_) | refine VO.go (VO.ld 1 rfl rfl rfl rfl ?_) | refine VO.go (VO.ld 2 rfl rfl rfl rfl ?_) | refine VO.go (VO.offU rfl rfl rfl ?_)))
        exact VC.ret (Ret.bool 4 rfl rfl (by simp_all [tells]) Imp.nil.ent ⟨rfl, rfl⟩)
    · (repeat (first | refine VC.seq ?_ | refine VC.region ?_ | refine VC.block ?_ | refine VC.label ?_ | refine VC.scope ?_ | refine VO.go (VO.nil ?_) | refine VO.go (VO.ld 0 rfl rfl rfl rfl ?_) | refine VO.go (VO.ld 1 rfl rfl rfl rfl ?_) | refine VO.go (VO.ld 2 rfl rfl rfl rfl ?_) | refine VO.go (VO.offU rfl rfl rfl ?_)))
      refine VO.go (VO.yes 25 false rfl rfl ?_)
      (repeat (first | refine VC.seq ?_ | refine VC.region ?_ | refine VC.block ?_ | refine VC.label ?_ | refine VC.scope ?_ | refine VO.go (VO.nil ?_) | refine VO.go (VO.ld 0 rfl rfl rfl rfl ?_) | refine VO.go (VO.ld 1 rfl rfl rfl rfl ?_) | refine VO.go (VO.ld 2 rfl rfl rfl rfl ?_) | refine VO.go (VO.offU rfl rfl rfl ?_)))
      exact VC.ret (Ret.bool 4 rfl rfl (by simp_all [tells]) Imp.nil.ent ⟨rfl, rfl⟩)

/-! ### Bits -/
def Bits (s : Nat) (st : List Nat) : Prop := ∀ i, s.testBit i = decide (i ∈ st)
theorem bit_ne {s : Nat} {st : List Nat} (h : Bits s st) (i : Nat) : (((s &&& 2 ^ i : Nat) : Int) != 0) = st.contains i := by
  have h0 : 0 < 2 ^ i := Nat.two_pow_pos i
  have h1 := h i
  rw [Nat.testBit_eq_decide_div_mod_eq] at h1
  rw [nat_bit]
  by_cases hi : i ∈ st
  · have h2 : s / 2 ^ i % 2 = 1 := by simpa [hi] using h1
    rw [h2, Nat.one_mul]
    have : ((2 ^ i : Nat) : Int) ≠ 0 := by omega
    simp only [List.contains_eq_mem, hi, decide_true, bne_iff_ne]; exact this
  · have h2 : s / 2 ^ i % 2 = 0 := by
      have : ¬ s / 2 ^ i % 2 = 1 := by simpa [hi] using h1
      omega
    rw [h2, Nat.zero_mul]; simp [hi]
theorem bit_eq {s : Nat} {st : List Nat} (h : Bits s st) (i : Nat) : (((s &&& 2 ^ i : Nat) : Int) == 0) = !st.contains i := by
  have := bit_ne h i
  rw [bne] at this
  rw [← this]; simp
theorem Bits.snoc {s : Nat} {st : List Nat} (h : Bits s st) (i : Nat) : Bits (s ||| 2 ^ i) (st ++ [i]) := fun j => by
  rw [Nat.testBit_or, h j, Nat.testBit_two_pow]
  by_cases hj : i = j
  · simp [hj]
  · simp [hj, Ne.symm hj]
theorem Bits.lt {s : Nat} {st : List Nat} (h : Bits s st) {n : Nat} (hl : ∀ i ∈ st, i < n) : s < 2 ^ n := by
  apply Nat.lt_pow_two_of_testBit
  intro i hi
  rw [h i]
  have : i ∉ st := fun hm => by have := hl i hm; omega
  simp [this]
theorem Bits.alike {s : Nat} {st st' : List Nat} (h : Bits s st) (h' : Bits s st') : Alike st st' := fun i => by
  have := (h i).symm.trans (h' i)
  simpa using this
theorem shl_wrap (j : Nat) (hj : j < 62) : IntKind.i64.wrap (1 * 2 ^ (j : Int).toNat) = ((2 ^ j : Nat) : Int) := by
  have h : 2 ^ j < 2 ^ 62 := Nat.pow_lt_pow_right (by omega) hj
  have e : (1 * 2 ^ (j : Int).toNat : Int) = ((2 ^ j : Nat) : Int) := by simp
  rw [e]; exact wrap_nat (by omega)
theorem pow_small (j : Nat) (hj : j < 62) : 2 ^ j < 9223372036854775808 := by
  have h : 2 ^ j < 2 ^ 62 := Nat.pow_lt_pow_right (by omega) hj
  omega
theorem light_bit {X : Cx} {e : Env} {xt yt : TypeId} {y : Operand} {j : Nat} (hy : ev e y = some (.int .i64 (j : Int))) (hj : j < 62) : Light X (.binOp .shl xt (.const (.int .i64 1)) y yt) e (.int .i64 ((2 ^ j : Nat) : Int)) :=
  light_shl _ rfl hy (by omega) (by omega) (shl_wrap j hj)

/-! ### May a call come next? -/
abbrev RecsIn (Fr : Nat → Prop) (w : World) (a : Option Addr) (l : List RecM) : Prop := RwIn recC 14 Fr w a l
theorem at_get {l : List RecM} {i : Nat} (h : i < l.length) : l[i]? = some (at_ l i) := by simp [at_, h]
def blocks (l : List RecM) (st : List Nat) (i j : Nat) : Bool := (at_ l j).done && !st.contains j && decide (0 ≤ (at_ l j).to) && decide ((at_ l j).to < (at_ l i).frm)
def comeB (l : List RecM) (st : List Nat) (i : Nat) : Bool := (List.range l.length).all fun j => !blocks l st i j
set_option maxRecDepth 100000 in
theorem mayCome_spec (Fr : Nat → Prop) (w : World) {sp : Nat} {a : Option Addr} {cap : Nat} {l : List RecM} {x1 x2 x3 : Value} (hs : Blk Fr w sp [.slice a l.length cap, x1, x2, x3]) (h : RecsIn Fr w a l) (hl : l.length ≤ 50) {s : Nat} {st : List Nat} (hb : Bits s st) (hsl : s < 2 ^ 60) (i : Nat) (hi : i < l.length) :
    Tri Tryd.prog 36 [.pointer (some ⟨sp, 0, none⟩), .int .i64 i, .int .i64 s] Fr w [] (fun v L => v = .bool (comeB l st i) ∧ L = []) := by
  refine Tri.of 47 Tryd.func36 rfl (by kernel_rfl) tabOk rfl rfl ?_
  (repeat (first | refine VC.seq ?_ | refine VC.region ?_ | refine VC.block ?_ | refine VC.label ?_ | refine VC.scope ?_ | refine VO.go (VO.nil ?_) | refine VO.go (VO.ld 0 rfl rfl rfl rfl ?_) | refine VO.go (VO.load rfl rfl (RdL.blk hs rfl) ?_)))
  refine VC.loop (σ := Nat) (fun j => [(0, .pointer (some ⟨sp, 0, none⟩)), (1, .int .i64 i), (2, .int .i64 s), (12, .slice a l.length cap), (13, .int .i64 l.length), (14, .int .i64 j)]) (fun _ => []) (fun j => j ≤ l.length ∧ ∀ k, k < j → blocks l st i k = false) (fun j => l.length - j) 0
    ⟨Nat.zero_le _, fun k hk => by omega⟩ (Sub.cons rfl (Sub.cons rfl (Sub.cons rfl (Sub.cons rfl (Sub.cons rfl (Sub.cons rfl (Sub.nil _))))))) Ent.refl ?_
  rintro j ⟨hj, hall⟩
  (repeat (first | refine VC.seq ?_ | refine VC.region ?_ | refine VC.block ?_ | refine VC.label ?_ | refine VC.scope ?_ | refine VO.go (VO.nil ?_) | refine VO.go (VO.ld 0 rfl rfl rfl rfl ?_)))
  refine VC.condP rfl (fun h1 => VC.skip ?_) (fun h1 => VC.exit ?_)
  · have hj2 : j < l.length := by omega
    obtain ⟨fb, fo, rfl, ra, rc⟩ := RwIn.rd (X := ⟨Tryd.prog, tab, tabOk, 47, Fr, w⟩) h (at_get hj2)
    obtain ⟨fb2, fo2, e2, ra2, rc2⟩ := RwIn.rd (X := ⟨Tryd.prog, tab, tabOk, 47, Fr, w⟩) h (at_get hi)
    cases e2
    refine VC.seq (VC.block (VC.seq (VC.region ?_)))
    (repeat (first | refine VC.seq ?_ | refine VC.region ?_ | refine VC.block ?_ | refine VC.label ?_ | refine VC.scope ?_ | refine VO.go (VO.nil ?_) | refine VO.go (VO.ld 0 rfl rfl rfl rfl ?_)))
    refine VO.go (VO.light (light_idx j rfl rfl rfl rfl rfl rfl hj2) ?_)
    refine VO.go (VO.load rfl rfl (ra _ _ rfl rfl) ?_)
    refine VO.go (VO.alloc rfl fun b => ?_)
    (repeat (first | refine VC.seq ?_ | refine VC.region ?_ | refine VC.block ?_ | refine VC.label ?_ | refine VC.scope ?_ | refine VO.go (VO.nil ?_) | refine VO.go (VO.ld 0 rfl rfl rfl rfl ?_)))
    refine VO.go (VO.stA (vs := recC (at_ l j)) 0 rfl rfl rfl rfl (Nat.le_refl _) rfl rfl rfl ?_)
    refine VO.go (VO.nil ?_)
    refine VC.meet (σ := Bool) (fun t => [(0, .pointer (some ⟨sp, 0, none⟩)), (1, .int .i64 i), (2, .int .i64 s), (12, .slice (some ⟨fb, fo, none⟩) l.length cap), (13, .int .i64 l.length), (14, .int .i64 j), (45, .bool t)]) (fun _ => []) (fun t => t = blocks l st i j) ?_ ?_
    · refine VC.draw (ts 0 1 (.only 1 (ts 2 25 .nil))) (by kernel_rfl) (by decide +kernel) ?_
      refine VA.go (VA.ldA 0 (recC (at_ l j)) rfl rfl rfl rfl rfl ?_)
      refine VA.go (VA.callR (fun Fr w hF hs _ => isDone_spec Fr w _) rfl rfl (by (try refine Pd.st ?_); (repeat (first | exact Pd.nil | exact Pd.fnil | refine Pd.inner ?_ | refine Pd.skip (by decide +kernel) ?_ | refine Pd.fcons (RdL.one 0 rfl rfl) ?_ | refine Pd.fcons (RdL.one 1 rfl rfl) ?_ | refine Pd.fcons (RdL.many 0 rfl rfl) ?_ | refine Pd.fcons (RdL.many 1 rfl rfl) ?_ | refine Pd.cons (RdL.one 0 rfl rfl) ?_ | refine Pd.cons (RdL.one 1 rfl rfl) ?_ | refine Pd.cons (RdL.many 0 rfl rfl) ?_ | refine Pd.cons (RdL.many 1 rfl rfl) ?_ | refine Pd.fconsM (MpL.one 0 rfl) ?_ | refine Pd.fconsM (MpL.one 1 rfl) ?_ | refine Pd.consM (MpL.one 0 rfl) ?_ | refine Pd.consM (MpL.one 1 rfl) ?_))) ?_)
      (repeat (first | refine VA.go (VA.nil ?_) | refine VA.go (VA.ld 0 rfl rfl rfl rfl rfl ?_) | refine VA.go (VA.ld 1 rfl rfl rfl rfl rfl ?_) | refine VA.go (VA.offU rfl rfl rfl rfl ?_)))
      refine VA.go (VA.split 21 rfl rfl (fun h2 => ?_) (fun h2 => ?_))
      · (repeat (first | refine VA.go (VA.nil ?_) | refine VA.go (VA.ld 0 rfl rfl rfl rfl rfl ?_) | refine VA.go (VA.ld 1 rfl rfl rfl rfl rfl ?_) | refine VA.go (VA.offU rfl rfl rfl rfl ?_)))
        refine VA.go (VA.light rfl (light_bit rfl (by omega)) ?_)
        (repeat (first | refine VA.go (VA.nil ?_) | refine VA.go (VA.ld 0 rfl rfl rfl rfl rfl ?_) | refine VA.go (VA.ld 1 rfl rfl rfl rfl rfl ?_) | refine VA.go (VA.offU rfl rfl rfl rfl ?_)))
        refine VA.go (VA.light rfl (light_and rfl rfl (by omega) (pow_small j (by omega))) ?_)
        (repeat (first | refine VA.go (VA.nil ?_) | refine VA.go (VA.ld 0 rfl rfl rfl rfl rfl ?_) | refine VA.go (VA.ld 1 rfl rfl rfl rfl rfl ?_) | refine VA.go (VA.offU rfl rfl rfl rfl ?_)))
        refine VA.go (VA.split 28 (b := !st.contains j) (congrArg (fun b => some (Value.bool b)) (bit_eq hb j)) rfl (fun h3 => ?_) (fun h3 => ?_))
        · (repeat (first | refine VA.go (VA.nil ?_) | refine VA.go (VA.ld 0 rfl rfl rfl rfl rfl ?_) | refine VA.go (VA.ld 1 rfl rfl rfl rfl rfl ?_) | refine VA.go (VA.offU rfl rfl rfl rfl ?_)))
          refine VA.go (VA.split 33 rfl rfl (fun h4 => ?_) (fun h4 => ?_))
          · (repeat (first | refine VA.go (VA.nil ?_) | refine VA.go (VA.ld 0 rfl rfl rfl rfl rfl ?_) | refine VA.go (VA.ld 1 rfl rfl rfl rfl rfl ?_) | refine VA.go (VA.load rfl rfl rfl (RdL.blk hs rfl) ?_) | refine VA.go (VA.offU rfl rfl rfl rfl ?_)))
            refine VA.go (VA.light rfl (light_idx i rfl rfl rfl rfl rfl rfl hi) ?_)
            (repeat (first | refine VA.go (VA.nil ?_) | refine VA.go (VA.ld 0 rfl rfl rfl rfl rfl ?_) | refine VA.go (VA.ld 1 rfl rfl rfl rfl rfl ?_) | refine VA.go (VA.offU rfl rfl rfl rfl ?_)))
            refine VA.go (VA.load rfl rfl rfl (rc2 _ _ 6 _ rfl rfl) ?_)
            (repeat (first | refine VA.go (VA.nil ?_) | refine VA.go (VA.ld 0 rfl rfl rfl rfl rfl ?_) | refine VA.go (VA.ld 1 rfl rfl rfl rfl rfl ?_) | refine VA.go (VA.offU rfl rfl rfl rfl ?_)))
            exact ⟨_, by unfold blocks; rw [h2, h3, h4]; simp, Sub.cons rfl (Sub.cons rfl (Sub.cons rfl (Sub.cons rfl (Sub.cons rfl (Sub.cons rfl (Sub.cons rfl (Sub.nil _))))))), Imp.nil.ent⟩
          · (repeat (first | refine VA.go (VA.nil ?_) | refine VA.go (VA.ld 0 rfl rfl rfl rfl rfl ?_) | refine VA.go (VA.ld 1 rfl rfl rfl rfl rfl ?_) | refine VA.go (VA.offU rfl rfl rfl rfl ?_)))
            exact ⟨_, by unfold blocks; rw [h2, h3, h4]; simp, Sub.cons rfl (Sub.cons rfl (Sub.cons rfl (Sub.cons rfl (Sub.cons rfl (Sub.cons rfl (Sub.cons rfl (Sub.nil _))))))), Imp.nil.ent⟩
        · (repeat (first | refine VA.go (VA.nil ?_) | refine VA.go (VA.ld 0 rfl rfl rfl rfl rfl ?_) | refine VA.go (VA.ld 1 rfl rfl rfl rfl rfl ?_) | refine VA.go (VA.offU rfl rfl rfl rfl ?_)))
          refine VA.go (VA.yes 33 false rfl rfl ?_)
          (repeat (first | refine VA.go (VA.nil ?_) | refine VA.go (VA.ld 0 rfl rfl rfl rfl rfl ?_) | refine VA.go (VA.ld 1 rfl rfl rfl rfl rfl ?_) | refine VA.go (VA.offU rfl rfl rfl rfl ?_)))
          exact ⟨_, by unfold blocks; rw [h2, h3]; simp, Sub.cons rfl (Sub.cons rfl (Sub.cons rfl (Sub.cons rfl (Sub.cons rfl (Sub.cons rfl (Sub.cons rfl (Sub.nil _))))))), Imp.nil.ent⟩
      · (repeat (first | refine VA.go (VA.nil ?_) | refine VA.go (VA.ld 0 rfl rfl rfl rfl rfl ?_) | refine VA.go (VA.ld 1 rfl rfl rfl rfl rfl ?_) | refine VA.go (VA.offU rfl rfl rfl rfl ?_)))
        refine VA.go (VA.yes 28 false rfl rfl ?_)
        (repeat (first | refine VA.go (VA.nil ?_) | refine VA.go (VA.ld 0 rfl rfl rfl rfl rfl ?_) | refine VA.go (VA.ld 1 rfl rfl rfl rfl rfl ?_) | refine VA.go (VA.offU rfl rfl rfl rfl ?_)))
        refine VA.go (VA.yes 33 false rfl rfl ?_)
        (repeat (first | refine VA.go (VA.nil ?_) | refine VA.go (VA.ld 0 rfl rfl rfl rfl rfl ?_) | refine VA.go (VA.ld 1 rfl rfl rfl rfl rfl ?_) | refine VA.go (VA.offU rfl rfl rfl rfl ?_)))
        exact ⟨_, by unfold blocks; rw [h2]; simp, Sub.cons rfl (Sub.cons rfl (Sub.cons rfl (Sub.cons rfl (Sub.cons rfl (Sub.cons rfl (Sub.cons rfl (Sub.nil _))))))), Imp.nil.ent⟩
    intro t ht
    refine VC.cond rfl (fun h2 => ?_) (fun h2 => VC.skip ?_)
    · (repeat (first | refine VC.seq ?_ | refine VC.region ?_ | refine VC.block ?_ | refine VC.label ?_ | refine VC.scope ?_ | refine VO.go (VO.nil ?_) | refine VO.go (VO.ld 0 rfl rfl rfl rfl ?_)))
      refine VC.ret (Ret.bool 6 rfl rfl ?_ Imp.nil.ent ⟨rfl, rfl⟩)
      symm
      rw [Bool.eq_false_iff]
      intro hc
      have := List.all_eq_true.1 hc j (List.mem_range.2 hj2)
      rw [← ht, h2] at this
      cases this
    · (repeat (first | refine VC.seq ?_ | refine VC.region ?_ | refine VC.block ?_ | refine VC.label ?_ | refine VC.scope ?_ | refine VO.go (VO.nil ?_) | refine VO.go (VO.ld 0 rfl rfl rfl rfl ?_)))
      refine VO.go (VO.add rfl rfl (by omega) (by omega) ?_)
      (repeat (first | refine VC.seq ?_ | refine VC.region ?_ | refine VC.block ?_ | refine VC.label ?_ | refine VC.scope ?_ | refine VO.go (VO.nil ?_) | refine VO.go (VO.ld 0 rfl rfl rfl rfl ?_)))
      refine ⟨j + 1, ⟨hj2, fun k hk => ?_⟩, by dsimp only; omega, Sub.cons rfl (Sub.cons rfl (Sub.cons rfl (Sub.cons rfl (Sub.cons rfl (Sub.cons rfl (Sub.nil _)))))), Imp.nil.ent⟩
      rcases Nat.lt_or_ge k j with h | h
      · exact hall k h
      · obtain rfl : k = j := by omega
        rw [← ht, h2]
  · (repeat (first | refine VC.seq ?_ | refine VC.region ?_ | refine VC.block ?_ | refine VC.label ?_ | refine VC.scope ?_ | refine VO.go (VO.nil ?_) | refine VO.go (VO.ld 0 rfl rfl rfl rfl ?_)))
    refine VC.ret (Ret.bool 6 rfl rfl ?_ Imp.nil.ent ⟨rfl, rfl⟩)
    symm
    refine List.all_eq_true.2 fun k hk => ?_
    rw [hall k (by have := List.mem_range.1 hk; omega)]; rfl
end Go.Proofs.YthabecjplpomhaaDoor.Br
