/- The engine, part N: lists of integers in slices, whose heads are cut off and which are copied. No program is named; nothing is assumed. -/
import Derived.Test.YtbbnmgakmcppdaaGreatVgI
namespace Go.Proofs.YtbbnmgakmcppdaaGreat.Vg
open Go

/-- x[1:] -/
theorem light_tail {X : Cx} {e : Env} {T : TypeId} {x y : Operand} {tt te : TI} {el b off n cap : Nat} {k : IntKind} (hx : ev e x = some (.slice (some ⟨b, off, none⟩) (n + 1) cap)) (hy : ev e y = some (.int k 1))
    (hT : tyLook X.tab T = some tt) (hu : tt.und = .slice el) (hE : tyLook X.tab el = some te) (hc : n + 1 ≤ cap) :
    Light X (.slice T x (some y) none none) e (.slice (some (if cap = 1 then ⟨b, off, none⟩ else ⟨b, off + te.size, none⟩)) n (cap - 1)) := by
  intro a ha dst ty pos after guard w
  have hd := und_slice (X.ok.look hT) hu
  obtain ⟨i2, hi2, hs2, _, _⟩ := (X.ok.look hE).info'
  by_cases h : cap = 1
  · subst h
    simp [execOp, ha.ev hx, ha.ev hy, Instr.sliceAt, Instr.slice, Instr.sliceBounds, Instr.sliceBound, asIntOf, run_underlying hd, run_size hi2, hs2, Addr.add_mid]
    intro hbad; omega
  · simp [execOp, ha.ev hx, ha.ev hy, Instr.sliceAt, Instr.slice, Instr.sliceBounds, Instr.sliceBound, asIntOf, run_underlying hd, run_size hi2, hs2, Addr.add_mid, h]
    intro hbad; omega

/-- A list of integers, in a slice that this code holds. -/
structure IL where
  addr : Option Addr
  cap : Nat
  blk : Option Nat
  cells : List Value
  xs : List Int
def IL.v (r : IL) : Value := .slice r.addr r.xs.length r.cap
def IL.h (t : Nat) (r : IL) : HP := match r.blk with
  | none => hpure True
  | some b => pt b r.cells t
structure IL.Ok (r : IL) : Prop where
  room : r.xs.length ≤ r.cap
  at_ : r.xs ≠ [] → ∃ b off, r.blk = some b ∧ r.addr = some ⟨b, off, none⟩ ∧ ∀ i x, r.xs[i]? = some x → r.cells[off + i]? = some (.int .i64 x)
def IL.none : IL := ⟨.none, 0, .none, [], []⟩
theorem IL.none_ok : IL.none.Ok := ⟨Nat.le_refl _, fun h => absurd rfl h⟩
def IL.tail (r : IL) : IL := ⟨match r.addr with | some a => some (if r.cap = 1 then a else ⟨a.block, a.off + 1, Option.none⟩) | Option.none => Option.none, r.cap - 1, r.blk, r.cells, r.xs.tail⟩
theorem IL.Ok.tail {r : IL} (h : r.Ok) (hne : r.xs ≠ []) : r.tail.Ok := by
  obtain ⟨b, off, h1, h2, h3⟩ := h.at_ hne
  have hr := h.room
  cases hx : r.xs with
  | nil => exact absurd hx hne
  | cons x xs =>
    refine ⟨by simp only [IL.tail, hx, List.tail_cons]; rw [hx] at hr; simp at hr; omega, fun hn => ?_⟩
    have hxs : xs ≠ [] := by simpa [IL.tail, hx] using hn
    have hc : ¬ r.cap = 1 := fun e => by
      rw [hx, e] at hr
      cases xs with
      | nil => exact hxs rfl
      | cons _ _ => simp at hr
    refine ⟨b, off + 1, h1, by simp [IL.tail, h2, hc], fun i y hy => ?_⟩
    have := h3 (i + 1) y (by rw [hx]; simpa [IL.tail, hx] using hy)
    rw [← this]; simp only [IL.tail]; congr 1; omega
def IL.new (b cap : Nat) (xs : List Int) (rest : List Value) : IL := ⟨some ⟨b, 0, Option.none⟩, cap, some b, (xs.map fun x => Value.int .i64 x) ++ rest, xs⟩
theorem IL.new_ok {b cap : Nat} {xs : List Int} {rest : List Value} (h : xs.length ≤ cap) : (IL.new b cap xs rest).Ok := ⟨h, fun _ => ⟨b, 0, rfl, rfl, fun i x hx => by
  have hi := (List.getElem?_eq_some_iff.1 hx).1
  simp only [IL.new] at hx hi ⊢
  rw [Nat.zero_add, List.getElem?_append_left (by simpa using hi), List.getElem?_map, hx]; rfl⟩⟩
/-- A piece in another one's stead. -/
theorem Imp.put {H : HP} {L : List HP} (k : Nat) (hk : k < L.length) : Imp (H :: L) (L.set k H) := by
  have h1 : Imp L (L.eraseIdx k) := Imp.trans (Imp.perm (perm_eraseIdx (List.getElem?_eq_getElem hk))) (Imp.app (L := [_]) (M := []) Imp.nil Imp.refl)
  exact Imp.trans (Imp.cons h1) (Imp.perm (perm_set H hk))
/-- Read as a row. -/
theorem IL.rd {X : Cx} {L : List HP} {t : Nat} {r : IL} (h : r.Ok) (i : Nat) (hL : ∀ b, r.blk = some b → L[i]? = some (pt b r.cells t)) : RdRow X L r.v 1 r.xs.length (r.xs.map fun x => Value.int .i64 x) := by
  by_cases hx : r.xs = []
  · exact ⟨by simp, .inl ⟨r.addr, r.cap, rfl, by simp [hx]⟩⟩
  · obtain ⟨b, off, h1, h2, h3⟩ := h.at_ hx
    refine ⟨by simp, .inr ⟨b, off, r.cap, by rw [IL.v, h2], fun w hw j v hv => ?_⟩⟩
    obtain ⟨h4, _⟩ := hw.atPt (hL b h1)
    rw [cell_of_row w b (off + j) r.cells.toArray t (0, 0) h4]
    rw [List.getElem?_map] at hv
    cases hy : r.xs[j]? with
    | none => rw [hy] at hv; cases hv
    | some y =>
      rw [hy] at hv
      obtain rfl : Value.int .i64 y = v := Option.some.inj hv
      simpa using h3 j y hy
end Go.Proofs.YtbbnmgakmcppdaaGreat.Vg
