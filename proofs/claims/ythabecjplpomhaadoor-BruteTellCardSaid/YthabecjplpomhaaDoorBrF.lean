/- Layer 33: the search finds the first order, if there is one. No condition but the table of powers of ten. -/
import Derived.Test.YthabecjplpomhaaDoorBrC
import Derived.Test.YthabecjplpomhaaDoorVgX
namespace Go.Proofs.YthabecjplpomhaaDoor.Br
open Go Go.Proofs.YthabecjplpomhaaDoor.Vg Go.Proofs.YthabecjplpomhaaDoor.T Go.Proofs.YthabecjplpomhaaDoor.Api Go.Proofs.YthabecjplpomhaaDoor.Kv Go.Proofs.YthabecjplpomhaaDoor.LibC
set_option linter.unusedSimpArgs false
set_option linter.unusedVariables false
attribute [local irreducible] VO VC VA

/-! ### Counting -/
theorem nodup_len {α : Type} [DecidableEq α] : ∀ {L M : List α}, L.Nodup → (∀ x ∈ L, x ∈ M) → L.length ≤ M.length
  | [], _, _, _ => Nat.zero_le _
  | x :: L, M, hn, h => by
    obtain ⟨h1, h2⟩ := List.nodup_cons.1 hn
    have hx := h x (by simp)
    have ih := nodup_len (M := M.erase x) h2 (fun y hy => (List.mem_erase_of_ne (fun e => h1 (by rw [← e]; exact hy))).2 (h y (by simp [hy])))
    have := List.length_erase_of_mem hx
    have hp : 0 < M.length := List.length_pos_of_mem hx
    simp only [List.length_cons]; omega
theorem full_mem {st : List Nat} {n : Nat} (hn : st.Nodup) (h : ∀ i ∈ st, i < n) (hl : n ≤ st.length) {i : Nat} (hi : i < n) : i ∈ st := by
  refine Decidable.byContradiction fun hc => ?_
  have := nodup_len (L := i :: st) (M := List.range n) (List.nodup_cons.2 ⟨hc, hn⟩) (fun x hx => by
    rcases List.mem_cons.1 hx with rfl | hx
    · exact List.mem_range.2 hi
    · exact List.mem_range.2 (h x hx))
  simp at this; omega
theorem full_done {l : List RecM} {st : List Nat} (hn : st.Nodup) (h : ∀ i ∈ st, i < l.length) (hl : l.length ≤ st.length) : allDone l st = true := by
  refine List.all_eq_true.2 fun i hi => ?_
  have := full_mem hn h hl (List.mem_range.1 hi)
  simp [this]
theorem alike_len {st st' : List Nat} (h : Alike st st') (hn : st.Nodup) (hn' : st'.Nodup) : st.length = st'.length :=
  Nat.le_antisymm (nodup_len hn fun x hx => (h x).1 hx) (nodup_len hn' fun x hx => (h x).2 hx)

/-- What is found goes on from what stands; each call once. -/
theorem solve_out {l : List RecM} : ∀ {m : Nat} {st : List Nat} {f : F} {n : Int} {o : List Nat}, st.Nodup → (∀ i ∈ st, i < l.length) → solve l m st f n = some o → o.Nodup ∧ (∀ i ∈ o, i < l.length) ∧ allDone l o = true ∧ ∀ i ∈ o, i ∈ st ∨ (at_ l i).stand = true
  | 0, st, f, n, o, h1, h2, h => by
    rw [solve] at h
    split at h
    · cases h; exact ⟨h1, h2, by assumption, fun i hi => .inl hi⟩
    · cases h
  | m + 1, st, f, n, o, h1, h2, h => by
    rw [solve] at h
    split at h
    · cases h; exact ⟨h1, h2, by assumption, fun i hi => .inl hi⟩
    · obtain ⟨i, hi, hs⟩ := List.exists_of_findSome?_eq_some h
      split at hs
      · rename_i hm
        obtain ⟨hni, hst⟩ := may_of (Bool.and_eq_true _ _ ▸ hm).1
        have hi2 := List.mem_range.1 hi
        obtain ⟨k1, k2, k3, k4⟩ := solve_out (List.nodup_append.2 ⟨h1, by simp, fun j hj y hy e => by simp at hy; rw [e, hy] at hj; exact hni hj⟩) (fun j hj => by
          rcases List.mem_append.1 hj with hj | hj
          · exact h2 j hj
          · simp at hj; omega) hs
        refine ⟨k1, k2, k3, fun j hj => ?_⟩
        rcases k4 j hj with h | h
        · rcases List.mem_append.1 h with h | h
          · exact .inl h
          · simp at h; subst h; exact .inr hst
        · exact .inr h
      · cases hs
theorem solve_len {l : List RecM} {m : Nat} {st : List Nat} {f : F} {n : Int} {o : List Nat} (h1 : st.Nodup) (h2 : ∀ i ∈ st, i < l.length) (h : solve l m st f n = some o) : o.length ≤ l.length := by
  obtain ⟨k1, k2, _⟩ := solve_out h1 h2 h
  have := nodup_len (M := List.range l.length) k1 (fun x hx => List.mem_range.2 (k2 x hx))
  simpa using this

/-! ### What the store has behind a call -/
theorem mem_mPut {κ α : Type} [DecidableEq κ] {a : κ} {u : α} {x : κ × α} : ∀ {l : List (κ × α)}, x ∈ mPut l a u → x = (a, u) ∨ x ∈ l
  | [], h => .inl (by simpa [mPut] using h)
  | (k, v) :: r, h => by
    simp only [mPut] at h
    split at h
    · rename_i hk
      rcases List.mem_cons.1 h with rfl | h
      · exact .inl (by rw [hk])
      · exact .inr (by simp [h])
    · rcases List.mem_cons.1 h with rfl | h
      · exact .inr (by simp)
      · rcases mem_mPut h with h | h
        · exact .inl h
        · exact .inr (by simp [h])
theorem check_sizes {o : OpM} (h : opCheck o = 0) : o.key.size ≤ 16 ∧ o.value.size ≤ 64 := by
  unfold opCheck at h
  split at h
  · omega
  split at h
  · omega
  · rename_i h2
    simp only [opLong, Bool.or_eq_true, decide_eq_true_eq, not_or] at h2
    omega
structure GoodN (S : KvM) (n : Nat) : Prop where
  few : S.length ≤ n
  at_ : ∀ x ∈ S, x.1.size ≤ 16 ∧ x.2.1.size ≤ 64 ∧ -1 ≤ x.2.2 ∧ x.2.2 ≤ 5000
theorem GoodN.good {S : KvM} {n : Nat} (h : GoodN S n) (hn : n ≤ 100) : Good S := ⟨Nat.le_trans h.few hn, h.at_⟩
theorem GoodN.apply {S : KvM} {n : Nat} (h : GoodN S n) (hn : n ≤ 4000) {o : OpM} (ho : opCheck o = 0) : GoodN (kvApply S (n + 1 : Nat) o).1 (n + 1) := by
  obtain ⟨c1, c2⟩ := check_sizes ho
  have hs : GoodN S (n + 1) := ⟨Nat.le_succ_of_le h.few, h.at_⟩
  unfold kvApply
  split
  · exact hs
  split
  · exact hs
  split
  · split
    · exact hs
    · exact ⟨Nat.le_trans (mDel_sub S o.key).length_le hs.few, fun x hx => h.at_ x ((mDel_sub S o.key).subset hx)⟩
  split
  · exact hs
  · refine ⟨Nat.le_trans (mPut_len S o.key _) (by have := h.few; omega), fun x hx => ?_⟩
    rcases mem_mPut hx with rfl | hx
    · exact ⟨c1, c2, by dsimp only; omega, by dsimp only; omega⟩
    · exact h.at_ x hx
/-- What comes of a call, on the store itself. -/
def stpK (S : KvM) (n : Nat) (r : RecM) : KvM × Nat × ResM := if reads r.op then (S, n, kvLook S r.op.key n) else ((kvApply S (n + 1 : Nat) r.op).1, n + 1, (kvApply S (n + 1 : Nat) r.op).2)
theorem stpK_F {S : KvM} (hS : (S.map Prod.fst).Nodup) (n : Nat) (r : RecM) : stp (mGet S) n r = (mGet (stpK S n r).1, ((stpK S n r).2.1 : Int), (stpK S n r).2.2) := by
  unfold stp stpK
  split
  · rfl
  · have := kvApply_F hS (n + 1 : Nat) r.op
    rw [show ((n : Int) + 1) = ((n + 1 : Nat) : Int) from rfl, ← this]
theorem stpK_nodup {S : KvM} (hS : (S.map Prod.fst).Nodup) (n : Nat) (r : RecM) : ((stpK S n r).1.map Prod.fst).Nodup := by
  unfold stpK
  split
  · exact hS
  · exact kvApply_nodup hS _ _
theorem stpK_good {S : KvM} {n : Nat} (h : GoodN S n) (hn : n ≤ 4000) {r : RecM} (hr : opCheck r.op = 0) : GoodN (stpK S n r).1 (stpK S n r).2.1 := by
  unfold stpK
  split
  · exact h
  · exact h.apply hn hr

/-! ### Where no order was found -/
abbrev VM := List ((Int × ByteArray) × Int)
def intV (x : Int) : Value := .int .i64 x
def VInv (l : List RecM) (V : VM) : Prop := ∀ k v, mGet V k = some v → v = 1 ∧ ∀ (s : Nat) (st : List Nat) (S : KvM) (m : Nat), k.1 = s → Bits s st → st.Nodup → st.length + m = l.length → txt S = k.2 → solve l m st (mGet S) (upd l st) = none
theorem VInv.nil (l : List RecM) : VInv l [] := fun k v h => by cases h
theorem VInv.put {l : List RecM} {V : VM} (h : VInv l V) {s m : Nat} {st : List Nat} {S : KvM} (hb : Bits s st) (hn : st.Nodup) (hm : st.length + m = l.length) (hs : solve l m st (mGet S) (upd l st) = none) : VInv l (mPut V ((s : Int), txt S) 1) := fun k v hk => by
  rw [mGet_put] at hk
  split at hk
  · rename_i he
    subst he
    refine ⟨(Option.some.inj hk).symm, fun s' st' S' m' h1 h2 h3 h4 h5 => ?_⟩
    have h1 : (s : Int) = s' := h1
    obtain rfl : s = s' := by omega
    have ha := hb.alike h2
    have hl := alike_len ha hn h3
    obtain rfl : m = m' := by omega
    rw [← txt_inj h5.symm, ← upd_alike ha]
    exact (solve_alike l m _ _ ha).1 hs
  · exact h k v hk

theorem keyP : KeyOk Tryd.prog 87 isV := KeyOk.is Tryd.underlying87 (by kernel_rfl) (by decide) (by decide) rfl rfl rfl rfl Tryd.underlying3 Tryd.underlying9 (TabOk.look tabOk (t := 3) (ti := T.t3) rfl) (TabOk.look tabOk (t := 9) (ti := T.t9) rfl) rfl rfl
def ordC (st : List Nat) : List Value := st.map fun (i : Nat) => .int .i64 (i : Int)
def srL (sp : Nat) (a : Option Addr) (n cap D : Nat) (V : VM) (st : List Nat) (x : Nat × Option Addr × Nat) : List HP :=
  [pt sp [.slice a n cap, .int .i64 (D : Int), .map (some x.1), .slice x.2.1 st.length x.2.2] 69, mapH isV intV x.1 V, slH 3 1 x.2.1 st.length x.2.2 (ordC st)]
def srH (sp : Nat) (a : Option Addr) (n cap D : Nat) (V : VM) (st : List Nat) : HP := hex fun x : Nat × Option Addr × Nat => hsep (hpure (st.length ≤ x.2.2) :: srL sp a n cap D V st x)
theorem HOpn.sr (sp : Nat) (a : Option Addr) (n cap D : Nat) (V : VM) (st : List Nat) : HOpn (ι := Nat × Option Addr × Nat) (srH sp a n cap D V st) (fun x => st.length ≤ x.2.2) (srL sp a n cap D V st) := fun w ids ⟨x, i, G, hG, ⟨hi, hφ⟩, h⟩ hn => by
  subst hi
  simp only [List.nil_append] at hG
  subst hG
  exact ⟨x, hφ, ids, h, hn, fun _ h => h⟩
theorem Imp.sr {L M : List HP} {sp : Nat} {a : Option Addr} {n cap D : Nat} {V : VM} {st : List Nat} (x : Nat × Option Addr × Nat) (hx : st.length ≤ x.2.2) (h : Imp L (srL sp a n cap D V st x ++ M)) : Imp L (srH sp a n cap D V st :: M) :=
  Imp.ex (f := fun x : Nat × Option Addr × Nat => hsep (hpure (st.length ≤ x.2.2) :: srL sp a n cap D V st x)) x (Imp.sep (Ls := hpure (st.length ≤ x.2.2) :: srL sp a n cap D V st x) (Imp.pure hx h))
theorem sr_in {Fr : Nat → Prop} {w : World} {sp : Nat} {a : Option Addr} {n cap D : Nat} {V : VM} {st : List Nat} (h : SatIn Fr [srH sp a n cap D V st] w) : ∃ x1 x2 x3, Blk Fr w sp [.slice a n cap, x1, x2, x3] := by
  obtain ⟨x, hx⟩ := h.ex
  exact ⟨_, _, _, hx.sep.blk 1 rfl⟩

/-- Which calls are done, as bits. -/
def DBits (l : List RecM) (D : Nat) : Prop := ∀ i, D.testBit i = decide (i < l.length ∧ (at_ l i).done = true)
theorem done_bits {l : List RecM} {D s : Nat} {st : List Nat} (hD : DBits l D) (hb : Bits s st) : (((s &&& D : Nat) : Int) == (D : Int)) = allDone l st := by
  have key : (s &&& D = D) ↔ allDone l st = true := by
    unfold allDone
    rw [List.all_eq_true]
    constructor
    · intro h i hi
      have := congrArg (fun x => x.testBit i) h
      simp only [Nat.testBit_and, hb i, hD i] at this
      have hi2 := List.mem_range.1 hi
      cases hd : (at_ l i).done
      · simp
      · simp only [hi2, hd, and_self, decide_true, Bool.and_true, decide_eq_true_eq] at this
        simp [this]
    · intro h
      apply Nat.eq_of_testBit_eq
      intro i
      rw [Nat.testBit_and, hb i, hD i]
      by_cases hi : i < l.length ∧ (at_ l i).done = true
      · have := h i (List.mem_range.2 hi.1)
        rw [hi.2] at this
        have hm : i ∈ st := by simpa using this
        simp [hi, hm]
      · simp [hi]
  cases hA : allDone l st
  · rw [hA] at key
    have : s &&& D ≠ D := fun h => by have := key.1 h; cases this
    simp only [beq_eq_false_iff_ne, ne_eq]; omega
  · rw [hA] at key
    have := key.2 rfl
    rw [this]; simp
theorem DBits.lt {l : List RecM} {D : Nat} (hD : DBits l D) : D < 2 ^ l.length := by
  apply Nat.lt_pow_two_of_testBit
  intro i hi
  rw [hD i]
  simp; omega
theorem may_eq (l : List RecM) (st : List Nat) (i : Nat) : may l st i = (!st.contains i && (at_ l i).stand && comeB l st i) := rfl
end Go.Proofs.YthabecjplpomhaaDoor.Br
