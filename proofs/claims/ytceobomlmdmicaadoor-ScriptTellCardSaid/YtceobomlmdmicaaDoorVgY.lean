/- The engine, part Y: parts of rows only looked at; ends of slices, read as rows. No program is named; nothing is assumed. -/
import Derived.Test.YtceobomlmdmicaaDoorVgX
import Derived.Test.YtceobomlmdmicaaDoorVgV
import Derived.Test.YtceobomlmdmicaaDoorVgW
import Derived.Test.YtceobomlmdmicaaDoorVgR
namespace Go.Proofs.YtceobomlmdmicaaDoor.Vg
open Go
set_option linter.unusedSimpArgs false

section
variable {α : Type} {c : α → List Value} {n : Nat}
/-- One of them is read: whole, a cell of it, or a part of it. -/
theorem RwIn.rd3 {X : Cx} {a : Option Addr} {l : List α} (h : RwIn c n X.Fr X.w0 a l) {i : Nat} {x : α} (hx : l[i]? = some x) : ∃ b off, a = some ⟨b, off, none⟩ ∧
    (∀ (L : List HP) (ti : TI), (c x).length = ti.size → ti.und.agg = true → RdL X L ti b (off + i * n) (.agg (c x).toArray)) ∧
    (∀ (L : List HP) (ti : TI) (j : Nat) (v : Value), ti.und.agg = false → (c x)[j]? = some v → RdL X L ti b (off + i * n + j) v) ∧
    ∀ (L : List HP) (ti : TI) (j : Nat) (vs : List Value), ti.und.agg = true → ((c x).drop j).take ti.size = vs → vs.length = ti.size → RdL X L ti b (off + i * n + j) (.agg vs.toArray) := by
  obtain ⟨b, off, h1, h2, h3⟩ := h.at_ (fun e => by rw [e] at hx; cases hx)
  refine ⟨b, off, h1, fun L ti hl ha => RdL.rd h2 ?_, fun L ti j v ha hv => RdL.rd h2 ?_, fun L ti j vs ha hv hl => RdL.rd h2 ?_⟩
  · rw [ha]; exact ⟨c x, rfl, hl, h3 i x hx⟩
  · rw [ha]; exact h3 i x hx j v hv
  · rw [ha]; refine ⟨vs, rfl, hl, fun k v hk => ?_⟩
    rw [← hv, List.getElem?_take] at hk
    split at hk
    · rw [List.getElem?_drop] at hk
      have := h3 i x hx (j + k) v hk
      rw [show off + i * n + (j + k) = off + i * n + j + k from by omega] at this
      exact this
    · cases hk

/-- x[lo:], where it lies. -/
def fromA (a : Option Addr) (cap lo sz : Nat) : Option Addr := a.map fun q => if cap = lo then q else q.add (lo * sz)
theorem light_from {X : Cx} {e : Env} {T : TypeId} {x y : Operand} {tt te : TI} {el len cap : Nat} {a : Option Addr} {k : IntKind} {j : Int} (lo : Nat) (hx : ev e x = some (.slice a len cap)) (hy : ev e y = some (.int k j))
    (hT : tyLook X.tab T = some tt) (hu : tt.und = .slice el) (hE : tyLook X.tab el = some te) (hlo : j = lo) (h1 : lo ≤ len) (h2 : len ≤ cap) :
    Light X (.slice T x (some y) none none) e (.slice (fromA a cap lo te.size) (len - lo) (cap - lo)) := by
  intro ac hac dst ty pos after guard w
  have hd := und_slice (X.ok.look hT) hu
  obtain ⟨i2, hi2, hs2, _, _⟩ := (X.ok.look hE).info'
  subst hlo
  cases a with
  | none => simp [execOp, hac.ev hx, hac.ev hy, Instr.sliceAt, Instr.slice, Instr.sliceBounds, Instr.sliceBound, asIntOf, run_underlying hd, h1, h2, run_size hi2, fromA]
  | some a =>
    by_cases h : cap = lo
    · subst h
      simp [execOp, hac.ev hx, hac.ev hy, Instr.sliceAt, Instr.slice, Instr.sliceBounds, Instr.sliceBound, asIntOf, run_underlying hd, h1, h2, run_size hi2, fromA]
    · simp [execOp, hac.ev hx, hac.ev hy, Instr.sliceAt, Instr.slice, Instr.sliceBounds, Instr.sliceBound, asIntOf, run_underlying hd, h1, h2, run_size hi2, fromA, hs2, h]
theorem RL.rdHead {X : Cx} {L : List HP} {t : Nat} {r : RL α} (hc : ∀ x, (c x).length = n) (h : r.Ok c n) (i : Nat) (hL : L[i]? = some (r.h t)) {hi : Nat} (hh : hi ≤ r.xs.length) : RdRow X L (.slice r.addr hi r.cap) n hi (flat c (r.xs.take hi)) := by
  have hlen : (r.xs.take hi).length = hi := by simp; omega
  by_cases hx : r.xs = []
  · have h0 : hi = 0 := by rw [hx] at hh; simpa using hh
    exact ⟨by simp [hx, h0, flat], .inl ⟨r.addr, r.cap, rfl, h0⟩⟩
  · obtain ⟨b, off, h1, h2, h3⟩ := h.at_ hx
    have hp : L[i]? = some (pt b r.cells t) := by rw [hL, RL.h, h1]
    rw [h2]
    have := flat_rows (c := c) (n := n) (xs := r.xs.take hi) (cells := r.cells) (off := off) (fun i x hx => h3 i x (by
      rw [List.getElem?_take] at hx
      split at hx
      · exact hx
      · cases hx))
    rw [hlen] at this
    exact RdRow.pt i hp this (by rw [flat_len hc, hlen])
theorem RL.rdFrom {X : Cx} {L : List HP} {t : Nat} {r : RL α} (hc : ∀ x, (c x).length = n) (h : r.Ok c n) (i : Nat) (hL : L[i]? = some (r.h t)) {lo : Nat} (hh : lo ≤ r.xs.length) : RdRow X L (.slice (fromA r.addr r.cap lo n) (r.xs.length - lo) (r.cap - lo)) n (r.xs.length - lo) (flat c (r.xs.drop lo)) := by
  have hlen : (r.xs.drop lo).length = r.xs.length - lo := by simp
  by_cases hx : r.xs.length = lo
  · have h0 : r.xs.drop lo = [] := List.drop_eq_nil_of_le (by omega)
    exact ⟨by simp [h0, hx, flat], .inl ⟨_, _, rfl, by omega⟩⟩
  · obtain ⟨b, off, h1, h2, h3⟩ := h.at_ (fun e => hx (by rw [e] at hh ⊢; simp at hh; simp [hh]))
    have hp : L[i]? = some (pt b r.cells t) := by rw [hL, RL.h, h1]
    have hcap : ¬ r.cap = lo := by have := h.room; omega
    have ha : fromA r.addr r.cap lo n = some ⟨b, off + lo * n, Option.none⟩ := by rw [h2, fromA, Option.map_some, if_neg hcap, Addr.add_mid]
    rw [ha]
    have := flat_rows (c := c) (n := n) (xs := r.xs.drop lo) (cells := r.cells) (off := off + lo * n) (fun i x hx => by
      rw [List.getElem?_drop] at hx
      rw [← h3 (lo + i) x hx, Nat.add_mul, Nat.add_assoc])
    rw [hlen] at this
    exact RdRow.pt i hp this (by rw [flat_len hc, hlen])
end
/-- '<' of two texts: one of the two answers. -/
theorem light_ltStr {X : Cx} {e : Env} {T yt : TypeId} {x y : Operand} {a b : ByteArray} (hx : ev e x = some (.string a)) (hy : ev e y = some (.string b)) : Light X (.binOp .lss T x y yt) e (.bool (Op.bytesLess a.toList b.toList)) := by
  intro a' ha dst ty pos after guard w
  simp [execOp, ha.ev hx, ha.ev hy, eqGuard, binOp, Op.stringOp]
theorem strEq (a b : ByteArray) : (a.toList == b.toList) = decide (a = b) := by
  by_cases h : a = b
  · subst h; simp
  · have : a.toList ≠ b.toList := fun e => h (by
      rw [ByteArray.toList_eq, ByteArray.toList_eq] at e
      exact ByteArray.ext (Array.toList_inj.1 e))
    rw [decide_eq_false h]; simpa using this
theorem Ret.tmpCell {X : Cx} {fn : Func} {R : Value → List HP → Prop} {e : Env} {L : List HP} {T : TypeId} {ti : TI} {b : Nat} {v u : Value} (q p : Nat) (h : fn.results = #[.tmp q, .cell p T]) (hp : look e p = some (.pointer (some ⟨b, 0, none⟩))) (hT : tyLook X.tab T = some ti)
    (hr : RdL X L ti b 0 v) (hq : look e q = some u) {L' : List HP} (he : Ent X L L') (hR : R (.tuple #[u, v]) L') : Ret X fn R e L :=
  ⟨_, L', ⟨fun a w ha hw => by
    have := run_loadVar (X.ok.look hT) (hr w hw)
    have hp' := ha.at_ p _ hp
    have hq' := ha.at_ q _ hq
    simp only [Array.getD_eq_getD_getElem?] at hp' hq'
    simp [results, h, hp', hq', asAddr, this]⟩, he, hR⟩
end Go.Proofs.YtceobomlmdmicaaDoor.Vg
