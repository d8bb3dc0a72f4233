/- The engine, part Z: a text gone through ('range' over a string), package-level tables. No program is named; nothing is assumed. -/
import Derived.Test.YtceobomlmdmicaaDoorVgU
import Derived.Test.YtceobomlmdmicaaDoorVgV
import Derived.Test.YtceobomlmdmicaaDoorVgF
namespace Go.Proofs.YtceobomlmdmicaaDoor.Vg
open Go
set_option linter.unusedSimpArgs false

/-- How far a text is gone through. -/
def itH (b : Nat) (s : ByteArray) (pos : Nat) : HP :=
  ⟨fun ids w => ids = [b] ∧ w.heap[b]? = some (.stringIter s pos), fun _ _ _ h hs => ⟨hs.1, (h b (by simp [hs.1])).trans hs.2⟩⟩
section
variable {X : Cx} {e : Env} {L : List HP}
theorem St.allocI {w : World} (h : St X L w) (s : ByteArray) : St X (itH w.heap.size s 0 :: L) (w.alloc (.stringIter s 0)) :=
  ⟨h.sat.alloc h.lowW _ _ ⟨rfl, heap_alloc_new w _⟩, h.keep.trans (Keep.alloc h.lowW _), h.low⟩
theorem St.atIt {w : World} {b pos : Nat} {s : ByteArray} (h : St X L w) {i : Nat} (hL : L[i]? = some (itH b s pos)) : w.heap[b]? = some (.stringIter s pos) ∧ ¬ X.Fr b := by
  obtain ⟨F, hs, _, hb⟩ := h.sat
  obtain ⟨ids, h1, h2⟩ := hs.get hL
  obtain ⟨rfl, h1⟩ := h1
  exact ⟨h1, (hb b (h2 b (by simp))).1⟩
theorem OpT.range {T : TypeId} {x : Operand} {s : ByteArray} (hT : X.P.underlying T = some .string) (hx : ev e x = some (.string s)) :
    OpT X (.range T x) e L (fun v L' => ∃ b, v = .pointer (some ⟨b, 0, none⟩) ∧ L' = itH b s 0 :: L) := fun ac w ha hw dst ty pos after guard => by
  refine .inl ⟨_, w.alloc (.stringIter s 0), _, ?_, ⟨w.heap.size, rfl, rfl⟩, hw.allocI s⟩
  simp [execOp, ha.ev hx, Instr.range, run_underlying hT, newObj, Sem.run]
/-- The next one: it is of one byte. -/
theorem OpT.nextB {it : Operand} {b p : Nat} {s : ByteArray} {c : Nat} (i : Nat) (hx : ev e it = some (.pointer (some ⟨b, 0, none⟩))) (hL : L[i]? = some (itH b s p)) (hp : p < s.size) (hd : Utf8.decode s p = (c, 1)) :
    OpT X (.next it true) e L (fun v L' => v = .tuple #[.bool true, .int .i64 (p : Int), .int .i32 (c : Int)] ∧ L' = L.set i (itH b s (p + 1))) := fun ac w ha hw dst ty pos after guard => by
  obtain ⟨h1, hf⟩ := hw.atIt hL
  have hids : ∀ ids w, (itH b s p).sat ids w → ids = [b] := fun _ _ h => h.1
  refine .inl ⟨_, setBlk w b (.stringIter s (p + 1)), _, ?_, ⟨rfl, rfl⟩, hw.setG hL hids h1 hf ⟨rfl, heap_setBlk h1⟩⟩
  simp [execOp, ha.ev hx, Instr.next, getObj, setObj, Sem.run, h1, hp, hd, setBlk, goInt, Result.andThen]
theorem OpT.nextN {it : Operand} {b : Nat} {s : ByteArray} (i : Nat) (hx : ev e it = some (.pointer (some ⟨b, 0, none⟩))) (hL : L[i]? = some (itH b s s.size)) :
    OpT X (.next it true) e L (fun v L' => v = .tuple #[.bool false] ∧ L' = L) := fun ac w ha hw dst ty pos after guard => by
  obtain ⟨h1, hf⟩ := hw.atIt hL
  refine .inl ⟨_, w, _, ?_, ⟨rfl, rfl⟩, hw⟩
  simp [execOp, ha.ev hx, Instr.next, getObj, Sem.run, h1]
/-- A byte of a text. -/
theorem light_strAt {T : TypeId} {x y : Operand} {s : ByteArray} {b : UInt8} {k : IntKind} {j : Int} {tt : TI} (i : Nat) (hx : ev e x = some (.string s)) (hy : ev e y = some (.int k j)) (hT : tyLook X.tab T = some tt) (hu : tt.und = .string)
    (hj : j = i) (hb : s.data.toList[i]? = some b) : Light X (.index T x y) e (.int .u8 (b.toNat : Int)) := by
  intro a ha dst ty pos after guard w
  have hund := und_string (X.ok.look hT) hu
  subst hj
  have hb2 : s[i]? = some b := by
    have : s.data[i]? = some b := by simpa using hb
    obtain ⟨h1, h2⟩ := Array.getElem?_eq_some_iff.1 this
    rw [getElem?_pos s i h1]
    exact congrArg some h2
  simp [execOp, ha.ev hx, ha.ev hy, Instr.index, asIntOf, run_underlying hund, hb2]
theorem light_shr8 {xt yt : TypeId} {x y : Operand} {a n : Nat} {k : IntKind} (hx : ev e x = some (.int .u8 (a : Int))) (hy : ev e y = some (.int k (n : Int))) (hn : n ≤ 8) : Light X (.binOp .shr xt x y yt) e (.int .u8 ((a / 2 ^ n : Nat) : Int)) := by
  intro a' ha dst ty pos after guard w
  have h8 : min ((n : Int).toNat) IntKind.u8.bits = n := Nat.min_eq_left hn
  have h2 : ((2 : Int) ^ n) = ((2 ^ n : Nat) : Int) := by simp
  have hd : (a : Int).fdiv (2 ^ n) = ((a / 2 ^ n : Nat) : Int) := by
    rw [h2, Int.fdiv_eq_ediv_of_nonneg _ (Int.natCast_nonneg _)]; rfl
  have h : Op.shift .shr .u8 (a : Int) k (n : Int) = pure (.int .u8 ((a / 2 ^ n : Nat) : Int)) := by
    unfold Op.shift
    rw [if_neg (by omega), h8]
    simp only [hd]
  simp only [execOp, ha.ev hx, ha.ev hy]
  show ((do eqGuard .shr xt x y (.int .u8 a) (.int k n); Op.shift .shr .u8 a k n : Sem Value) >>= fun v => pure (Next.value v)).run X.P w = _
  rw [h]; rfl
theorem light_shlN {xt yt : TypeId} {x y : Operand} {a n : Nat} {k : IntKind} (hx : ev e x = some (.int .i64 (a : Int))) (hy : ev e y = some (.int k (n : Int))) (hn : n ≤ 64) (hz : a * 2 ^ n < 9223372036854775808) : Light X (.binOp .shl xt x y yt) e (.int .i64 ((a * 2 ^ n : Nat) : Int)) := by
  intro a' ha dst ty pos after guard w
  have h8 : min ((n : Int).toNat) IntKind.i64.bits = n := Nat.min_eq_left hn
  have h2 : (a : Int) * 2 ^ n = ((a * 2 ^ n : Nat) : Int) := by simp
  have h : Op.shift .shl .i64 (a : Int) k (n : Int) = pure (.int .i64 ((a * 2 ^ n : Nat) : Int)) := by
    unfold Op.shift
    rw [if_neg (by omega), h8]
    simp only [h2]
    rw [wrap_nat hz]
  simp only [execOp, ha.ev hx, ha.ev hy]
  show ((do eqGuard .shl xt x y (.int .i64 a) (.int k n); Op.shift .shl .i64 a k n : Sem Value) >>= fun v => pure (Next.value v)).run X.P w = _
  rw [h]; rfl
theorem light_and8 {xt yt : TypeId} {x y : Operand} {a b : Nat} (hx : ev e x = some (.int .u8 (a : Int))) (hy : ev e y = some (.int .u8 (b : Int))) (ha : a < 256) (hb : b < 256) : Light X (.binOp .and xt x y yt) e (.int .u8 ((a &&& b : Nat) : Int)) := by
  intro a' hag dst ty pos after guard w
  have hlt : a &&& b < 256 := Nat.lt_of_le_of_lt Nat.and_le_left ha
  have h : Op.intBits .and .u8 (a : Int) (b : Int) = pure (.int .u8 ((a &&& b : Nat) : Int)) := by
    have f1 : (BitVec.ofInt 8 (a : Int)).toNat = a := by simp; omega
    have f2 : (BitVec.ofInt 8 (b : Int)).toNat = b := by simp; omega
    have e1 : (BitVec.ofInt 8 (a : Int) &&& BitVec.ofInt 8 (b : Int)).toNat = a &&& b := by rw [BitVec.toNat_and, f1, f2]
    show (pure (.int .u8 (IntKind.u8.wrap ((BitVec.ofInt 8 (a : Int) &&& BitVec.ofInt 8 (b : Int)).toNat : Int))) : Sem Value) = _
    rw [e1, IntKind.wrap_u8', Int.emod_eq_of_lt (by omega) (by omega)]
  simp only [execOp, hag.ev hx, hag.ev hy]
  show ((do eqGuard .and xt x y (.int .u8 a) (.int .u8 b); Op.intBits .and .u8 a b : Sem Value) >>= fun v => pure (Next.value v)).run X.P w = _
  rw [h]; rfl
theorem run_eq_if {P : Program} {ty : Nat} {ms : Array (String × TypeId)} (hund : P.underlying ty = some (.interface ms)) {v : Value} {r : Bool} (hv : (v = .nilIface ∧ r = true) ∨ ∃ tp p, v = .iface tp p ∧ r = false) (w : World) : (Op.equal ty v .nilIface).run P w = .ok r w := by
  unfold Op.equal
  show (Op.equalIn (9999 + 1) ty v .nilIface).run P w = _
  rw [Op.equalIn, Sem.run_bind, run_underlying hund]
  rcases hv with ⟨rfl, rfl⟩ | ⟨tp, p, rfl, rfl⟩ <;> rfl
/-- An error held against nil. -/
theorem light_neNil {T yt : TypeId} {x : Operand} {v : Value} {ms : Array (String × TypeId)} {r : Bool} (hT : X.P.underlying T = some (.interface ms)) (hx : ev e x = some v) (hv : (v = .nilIface ∧ r = false) ∨ ∃ tp p, v = .iface tp p ∧ r = true) :
    Light X (.binOp .neq T x (.const .nilIface) yt) e (.bool r) := by
  intro a' ha dst ty pos after guard w
  have hq := run_eq_if hT (v := v) (r := !r) (by rcases hv with ⟨h1, h2⟩ | ⟨tp, p, h1, h2⟩ <;> simp [h1, h2]) w
  simp only [execOp, ha.ev hx]
  have h : (do eqGuard .neq T x (.const .nilIface) v .nilIface; binOp .neq T v .nilIface : Sem Value).run X.P w = .ok (.bool r) w := by
    have hg : (eqGuard .neq T x (.const .nilIface) v .nilIface).run X.P w = .ok () w := by
      rcases hv with ⟨rfl, _⟩ | ⟨tp, p, rfl, _⟩
      · cases x <;> rfl
      · rfl
    rw [Sem.run_bind, hg, Result.andThen_ok]
    have hb : binOp .neq T v .nilIface = (do pure (.bool (!(← Op.equal T v .nilIface))) : Sem Value) := by
      rcases hv with ⟨rfl, _⟩ | ⟨tp, p, rfl, _⟩ <;> rfl
    rw [hb, Sem.run_bind, hq]
    cases r <;> rfl
  rw [Sem.run_bind]
  show ((do eqGuard .neq T x (.const .nilIface) v .nilIface; binOp .neq T v .nilIface : Sem Value).run X.P w).andThen _ = _
  rw [h]; rfl
end
end Go.Proofs.YtceobomlmdmicaaDoor.Vg
