/- The engine, part V: rows of any kind that are only looked at; bits. No program is named; nothing is assumed. -/
import Derived.Test.YtbbnmgakmcppdaaGreatVgP
import Derived.Test.YtbbnmgakmcppdaaGreatVgU
import Derived.Laws.BitsAllLaws
namespace Go.Proofs.YtbbnmgakmcppdaaGreat.Vg
open Go
set_option linter.unusedVariables false

/-! ### Rows that are only looked at -/
structure RwIn {α : Type} (c : α → List Value) (n : Nat) (Fr : Nat → Prop) (w : World) (a : Option Addr) (l : List α) : Prop where
  at_ : l ≠ [] → ∃ b off, a = some ⟨b, off, none⟩ ∧ Fr b ∧ ∀ i x, l[i]? = some x → w.rangeAt b (off + i * n) (c x)
section
variable {α : Type} {c : α → List Value} {n : Nat}
theorem RwIn.keep {Fr Fr' : Nat → Prop} {w w' : World} {a : Option Addr} {l : List α} (h : RwIn c n Fr w a l) (hF : ∀ b, Fr b → Fr' b) (hk : Keep Fr w w') : RwIn c n Fr' w' a l := ⟨fun hne => by
  obtain ⟨b, off, h1, h2, h3⟩ := h.at_ hne
  refine ⟨b, off, h1, hF b h2, fun i x hx j v hv => ?_⟩
  have := h3 i x hx j v hv
  unfold World.cell? at this ⊢
  rw [hk.block b h2]; exact this⟩
theorem RwIn.of {X : Cx} {a : Option Addr} {l : List α} (h : RwIn c n X.Fr X.w0 a l) {Fr' : Nat → Prop} (hF : ∀ b, X.Fr b → Fr' b) {w : World} {L : List HP} (hw : St X L w) : RwIn c n Fr' w a l := h.keep hF hw.keep
theorem RwIn.mono {Fr Fr' : Nat → Prop} {w : World} {a : Option Addr} {l : List α} (h : RwIn c n Fr w a l) (hF : ∀ b, Fr b → Fr' b) : RwIn c n Fr' w a l := ⟨fun hne => by
  obtain ⟨b, off, h1, h2, h3⟩ := h.at_ hne
  exact ⟨b, off, h1, hF b h2, h3⟩⟩
theorem RwIn.nil {Fr : Nat → Prop} {w : World} {a : Option Addr} : RwIn c n Fr w a [] := ⟨fun h => absurd rfl h⟩
/-- One of them is read: whole, or a cell of it. -/
theorem RwIn.rd {X : Cx} {a : Option Addr} {l : List α} (h : RwIn c n X.Fr X.w0 a l) {i : Nat} {x : α} (hx : l[i]? = some x) : ∃ b off, a = some ⟨b, off, none⟩ ∧
    (∀ (L : List HP) (ti : TI), (c x).length = ti.size → ti.und.agg = true → RdL X L ti b (off + i * n) (.agg (c x).toArray)) ∧
    ∀ (L : List HP) (ti : TI) (j : Nat) (v : Value), ti.und.agg = false → (c x)[j]? = some v → RdL X L ti b (off + i * n + j) v := by
  obtain ⟨b, off, h1, h2, h3⟩ := h.at_ (fun e => by rw [e] at hx; cases hx)
  refine ⟨b, off, h1, fun L ti hl ha => RdL.rd h2 ?_, fun L ti j v ha hv => RdL.rd h2 ?_⟩
  · rw [ha]; exact ⟨c x, rfl, hl, h3 i x hx⟩
  · rw [ha]; exact h3 i x hx j v hv
theorem RwIn.rl {Fr : Nat → Prop} {w : World} {r : RL α} {t : Nat} (h : SatIn Fr [r.h t] w) (hok : r.Ok c n) : RwIn c n Fr w r.addr r.xs := ⟨fun hne => by
  obtain ⟨b, off, h1, h2, h3⟩ := hok.at_ hne
  have hb := h.blk 0 (by rw [RL.h_pt h1]; rfl)
  obtain ⟨t', fz, ht⟩ := hb.at_
  exact ⟨b, off, h2, hb.fr, fun i x hx => rangeAt_blk ht (h3 i x hx)⟩⟩
theorem RwIn.blk {Fr : Nat → Prop} {w : World} {b off : Nat} {cs : List Value} {l : List α} (h : Blk Fr w b cs) (hc : ∀ i x, l[i]? = some x → (cs.drop (off + i * n)).take n = c x) : RwIn c n Fr w (some ⟨b, off, none⟩) l := ⟨fun hne => by
  obtain ⟨t', fz, ht⟩ := h.at_
  exact ⟨b, off, rfl, h.fr, fun i x hx => rangeAt_blk ht (hc i x hx)⟩⟩
theorem rangeAt_flat {w : World} (hc : ∀ x, (c x).length = n) : ∀ {l : List α} {b off : Nat}, (∀ i x, l[i]? = some x → w.rangeAt b (off + i * n) (c x)) → w.rangeAt b off (flat c l)
  | [], b, off, _ => fun j v hv => by simp [flat] at hv
  | x :: l, b, off, h => fun j v hv => by
    rw [flat_cons, List.getElem?_append] at hv
    have h0 := h 0 x rfl
    rw [Nat.zero_mul, Nat.add_zero] at h0
    split at hv
    · exact h0 j v hv
    · rename_i hj
      rw [hc x] at hj hv
      have ih := rangeAt_flat hc (l := l) (b := b) (off := off + n) (fun i y hy => by
        have := h (i + 1) y (by simpa using hy)
        rw [Nat.succ_mul] at this
        rw [show off + n + i * n = off + (i * n + n) from by omega]; exact this)
      have := ih (j - n) v hv
      rw [show off + n + (j - n) = off + j from by omega] at this
      exact this
theorem RwIn.row {X : Cx} {L : List HP} {a : Option Addr} {cap : Nat} {l : List α} (hc : ∀ x, (c x).length = n) (h : RwIn c n X.Fr X.w0 a l) : RdRow X L (.slice a l.length cap) n l.length (flat c l) := by
  refine ⟨flat_len hc l, ?_⟩
  by_cases hl : l = []
  · exact .inl ⟨a, cap, rfl, by simp [hl]⟩
  · obtain ⟨b, off, h1, h2, h3⟩ := h.at_ hl
    refine .inr ⟨b, off, cap, by rw [h1], fun w hw => ?_⟩
    have := (RwIn.of (X := X) (Fr' := X.Fr) h (fun _ h => h) hw)
    obtain ⟨b', off', e1, _, e3⟩ := this.at_ hl
    rw [h1] at e1
    cases e1
    exact rangeAt_flat hc e3
theorem RwIn.drop {Fr : Nat → Prop} {w : World} {b off : Nat} {l : List α} (h : RwIn c n Fr w (some ⟨b, off, none⟩) l) (k : Nat) : RwIn c n Fr w (some ⟨b, off + k * n, none⟩) (l.drop k) := ⟨fun hne => by
  obtain ⟨b', off', h1, h2, h3⟩ := h.at_ (fun e => hne (by rw [e]; simp))
  cases h1
  refine ⟨b, off + k * n, rfl, h2, fun i x hx => ?_⟩
  rw [List.getElem?_drop] at hx
  have := h3 _ _ hx
  rw [Nat.add_mul, ← Nat.add_assoc] at this
  exact this⟩
theorem RwIn.take {Fr : Nat → Prop} {w : World} {a : Option Addr} {l : List α} (h : RwIn c n Fr w a l) (k : Nat) : RwIn c n Fr w a (l.take k) := ⟨fun hne => by
  obtain ⟨b', off', h1, h2, h3⟩ := h.at_ (fun e => hne (by rw [e]; simp))
  refine ⟨b', off', h1, h2, fun i x hx => ?_⟩
  rw [List.getElem?_take] at hx
  split at hx
  · exact h3 _ _ hx
  · cases hx⟩
end

/-! ### Bits of numbers that are not negative -/
theorem ofInt_i64 (a : Nat) (ha : a < 9223372036854775808) : (BitVec.ofInt 64 (a : Int)).toNat = a := by
  simp; omega
theorem wrap_nat {a : Nat} (ha : a < 9223372036854775808) : IntKind.i64.wrap (a : Int) = a := i64_in _ (by omega) (by omega)
section
variable {X : Cx} {e : Env} {xt yt : TypeId} {x y : Operand} {a b : Nat}
theorem light_and (hx : ev e x = some (.int .i64 (a : Int))) (hy : ev e y = some (.int .i64 (b : Int))) (ha : a < 9223372036854775808) (hb : b < 9223372036854775808) : Light X (.binOp .and xt x y yt) e (.int .i64 ((a &&& b : Nat) : Int)) := by
  intro a' hag dst ty pos after guard w
  have h : Op.intBits .and .i64 (a : Int) (b : Int) = pure (.int .i64 ((a &&& b : Nat) : Int)) := by
    have e1 : (BitVec.ofInt 64 (a : Int) &&& BitVec.ofInt 64 (b : Int)).toNat = a &&& b := by rw [BitVec.toNat_and, ofInt_i64 a ha, ofInt_i64 b hb]
    have e2 : IntKind.i64.wrap ((BitVec.ofInt 64 (a : Int) &&& BitVec.ofInt 64 (b : Int)).toNat : Int) = ((a &&& b : Nat) : Int) := by rw [e1]; exact wrap_nat (Nat.lt_of_le_of_lt Nat.and_le_left ha)
    show (pure (.int .i64 (IntKind.i64.wrap ((BitVec.ofInt 64 (a : Int) &&& BitVec.ofInt 64 (b : Int)).toNat : Int))) : Sem Value) = _
    rw [e2]
  simp only [execOp, hag.ev hx, hag.ev hy]
  show ((do eqGuard .and xt x y (.int .i64 a) (.int .i64 b); Op.intBits .and .i64 a b : Sem Value) >>= fun v => pure (Next.value v)).run X.P w = _
  rw [h]; rfl
theorem light_or (hx : ev e x = some (.int .i64 (a : Int))) (hy : ev e y = some (.int .i64 (b : Int))) (ha : a < 9223372036854775808) (hb : b < 9223372036854775808) : Light X (.binOp .or xt x y yt) e (.int .i64 ((a ||| b : Nat) : Int)) := by
  intro a' hag dst ty pos after guard w
  have hlt : a ||| b < 9223372036854775808 := by
    have : a ||| b < 2 ^ 63 := Nat.or_lt_two_pow (by simpa using ha) (by simpa using hb)
    simpa using this
  have h : Op.intBits .or .i64 (a : Int) (b : Int) = pure (.int .i64 ((a ||| b : Nat) : Int)) := by
    have e1 : (BitVec.ofInt 64 (a : Int) ||| BitVec.ofInt 64 (b : Int)).toNat = a ||| b := by rw [BitVec.toNat_or, ofInt_i64 a ha, ofInt_i64 b hb]
    have e2 : IntKind.i64.wrap ((BitVec.ofInt 64 (a : Int) ||| BitVec.ofInt 64 (b : Int)).toNat : Int) = ((a ||| b : Nat) : Int) := by rw [e1]; exact wrap_nat hlt
    show (pure (.int .i64 (IntKind.i64.wrap ((BitVec.ofInt 64 (a : Int) ||| BitVec.ofInt 64 (b : Int)).toNat : Int))) : Sem Value) = _
    rw [e2]
  simp only [execOp, hag.ev hx, hag.ev hy]
  show ((do eqGuard .or xt x y (.int .i64 a) (.int .i64 b); Op.intBits .or .i64 a b : Sem Value) >>= fun v => pure (Next.value v)).run X.P w = _
  rw [h]; rfl
end
end Go.Proofs.YtbbnmgakmcppdaaGreat.Vg
