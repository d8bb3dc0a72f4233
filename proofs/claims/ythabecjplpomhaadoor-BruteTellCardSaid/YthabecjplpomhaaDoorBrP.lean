/- Layer 33, plain: looking for an order of calls; texts that tell stores apart. No program. No condition. -/
import Derived.Test.YthabecjplpomhaaDoorKv2
import Derived.Lib.ItoaNum
namespace Go.Proofs.YthabecjplpomhaaDoor.Br
open Go Go.Proofs.YthabecjplpomhaaDoor.Vg Go.Proofs.YthabecjplpomhaaDoor.Api Go.Proofs.YthabecjplpomhaaDoor.Kv Go.Proofs.YthabecjplpomhaaDoor.LibC
set_option linter.unusedSimpArgs false
set_option linter.unusedVariables false

/-! ### Numbers as texts -/
def decVal (l : List UInt8) : Nat := l.foldl (fun a c => 10 * a + (c.toNat - 48)) 0
theorem digit_nat (u : Nat) (h : u < 10) : (UInt8.ofNat (48 + u)).toNat = 48 + u := by
  have : (48 + u) % 256 = 48 + u := Nat.mod_eq_of_lt (by omega)
  simp [this]
theorem decVal_digits : ∀ u : Nat, decVal (Lib.decDigits u) = u := fun u => by
  induction u using Nat.strongRecOn with
  | _ u ih =>
    rw [Lib.decDigits]
    split
    · rename_i h
      simp only [decVal, List.foldl_cons, List.foldl_nil, digit_nat u h]; omega
    · rename_i h
      have := ih (u / 10) (by omega)
      unfold decVal at this ⊢
      rw [List.foldl_append, this]
      simp only [List.foldl_cons, List.foldl_nil]
      rw [digit_nat _ (by omega)]; omega
theorem digits_range : ∀ u : Nat, ∀ c ∈ Lib.decDigits u, 48 ≤ c.toNat ∧ c.toNat ≤ 57 := fun u => by
  induction u using Nat.strongRecOn with
  | _ u ih =>
    intro c hc
    rw [Lib.decDigits] at hc
    split at hc
    · rename_i h
      simp only [List.mem_singleton] at hc; subst hc
      rw [digit_nat u h]; omega
    · rename_i h
      rcases List.mem_append.1 hc with hc | hc
      · exact ih (u / 10) (by omega) c hc
      · simp only [List.mem_singleton] at hc; subst hc
        rw [digit_nat _ (by omega)]; omega
theorem digits_ne (u : Nat) : Lib.decDigits u ≠ [] := fun h => by
  have := Lib.decDigits_length u
  rw [h] at this
  have := Lib.nDigits_pos u
  simp at *; omega
theorem decDigits_inj {a b : Nat} (h : Lib.decDigits a = Lib.decDigits b) : a = b := by rw [← decVal_digits a, h, decVal_digits]
theorem itoa_inj {a b : Int} (h : Lib.itoa a = Lib.itoa b) : a = b := by
  have key : ∀ (u v : Nat), Lib.decDigits u = 45 :: Lib.decDigits v → False := fun u v h => by
    have := digits_range u 45 (by rw [h]; simp)
    have e : (45 : UInt8).toNat = 45 := rfl
    omega
  unfold Lib.itoa at h
  split at h <;> split at h
  · have := decDigits_inj (List.cons.inj h).2; omega
  · exact (key _ _ h.symm).elim
  · exact (key _ _ h).elim
  · have := decDigits_inj h; omega
theorem itoa_colon (u : Nat) : (58 : UInt8) ∉ Lib.itoa (u : Int) := fun h => by
  unfold Lib.itoa at h
  rw [if_neg (by omega)] at h
  have := digits_range _ _ h
  have e : (58 : UInt8).toNat = 58 := rfl
  omega

/-! ### Words, each with its length ahead -/
def encW (w : List UInt8) : List UInt8 := Lib.itoa (w.length : Int) ++ 58 :: w
theorem split_at {α : Type} {s : α} : ∀ {a a' x x' : List α}, s ∉ a → s ∉ a' → a ++ s :: x = a' ++ s :: x' → a = a' ∧ x = x'
  | [], [], x, x', _, _, h => ⟨rfl, by simpa using h⟩
  | [], c :: a', x, x', _, h2, h => by simp at h; exact (h2 (by simp [h.1])).elim
  | c :: a, [], x, x', h1, _, h => by simp at h; exact (h1 (by simp [h.1])).elim
  | c :: a, c' :: a', x, x', h1, h2, h => by
    simp only [List.cons_append, List.cons.injEq] at h
    obtain ⟨e1, e2⟩ := split_at (a := a) (a' := a') (fun hm => h1 (by simp [hm])) (fun hm => h2 (by simp [hm])) h.2
    exact ⟨by rw [h.1, e1], e2⟩
theorem encW_inj {w w' r r' : List UInt8} (h : encW w ++ r = encW w' ++ r') : w = w' ∧ r = r' := by
  unfold encW at h
  rw [List.append_assoc, List.append_assoc, List.cons_append, List.cons_append] at h
  obtain ⟨h1, h2⟩ := split_at (itoa_colon _) (itoa_colon _) h
  have := itoa_inj h1
  exact List.append_inj h2 (by omega)
theorem encW_ne (w : List UInt8) : encW w ≠ [] := by unfold encW; simp
theorem encs_inj : ∀ {l l' : List (List UInt8)}, l.flatMap encW = l'.flatMap encW → l = l'
  | [], [], _ => rfl
  | [], w :: l', h => by simp only [List.flatMap_nil, List.flatMap_cons] at h; exact (encW_ne w (List.append_eq_nil_iff.1 h.symm).1).elim
  | w :: l, [], h => by simp only [List.flatMap_nil, List.flatMap_cons] at h; exact (encW_ne w (List.append_eq_nil_iff.1 h).1).elim
  | w :: l, w' :: l', h => by
    simp only [List.flatMap_cons] at h
    obtain ⟨h1, h2⟩ := encW_inj h
    rw [h1, encs_inj h2]

/-! ### What a store has, as a text -/
abbrev F := ByteArray → Option (ByteArray × Int)
def toB (l : List UInt8) : ByteArray := ⟨l.toArray⟩
theorem toB_data (s : ByteArray) : toB s.data.toList = s := by simp [toB]
theorem toB_inj {a b : List UInt8} (h : toB a = toB b) : a = b := by
  have := congrArg (fun s : ByteArray => s.data.toList) h
  simpa [toB] using this
def cellOf (S : KvM) (k : List UInt8) : ByteArray × Int := (mGet S (toB k)).getD (nilB, 0)
def words (S : KvM) (k : List UInt8) : List (List UInt8) := [k, (cellOf S k).1.data.toList, Lib.itoa (cellOf S k).2]
def txtL (S : KvM) (ks : List (List UInt8)) : List UInt8 := (ks.flatMap (words S)).flatMap encW
def txt (S : KvM) : ByteArray := toB (txtL S (sortedKeys S))
theorem words3 {S S' : KvM} : ∀ {l l' : List (List UInt8)}, l.flatMap (words S) = l'.flatMap (words S') → l = l' ∧ ∀ k ∈ l, cellOf S k = cellOf S' k
  | [], [], _ => ⟨rfl, fun _ h => by cases h⟩
  | [], k :: l', h => by simp [words] at h
  | k :: l, [], h => by simp [words] at h
  | k :: l, k' :: l', h => by
    simp only [List.flatMap_cons, words, List.cons_append, List.nil_append, List.cons.injEq] at h
    obtain ⟨h1, h2, h3, h4⟩ := h
    obtain ⟨e1, e2⟩ := words3 h4
    subst h1
    refine ⟨by rw [e1], fun x hx => ?_⟩
    rcases List.mem_cons.1 hx with rfl | hx
    · exact Prod.ext (by rw [← toB_data (cellOf S x).1, h2, toB_data]) (itoa_inj h3)
    · exact e2 x hx
theorem mem_sorted {α : Type} {S : List (ByteArray × α)} {k : List UInt8} : k ∈ sortedKeys S ↔ ∃ x ∈ S, x.1 = toB k := by
  unfold sortedKeys
  rw [List.mem_mergeSort, List.mem_map]
  constructor
  · rintro ⟨x, hx, rfl⟩; exact ⟨x, hx, (toB_data x.1).symm⟩
  · rintro ⟨x, hx, h⟩; exact ⟨x, hx, by rw [h]; simp [toB]⟩
theorem mGet_sorted {S : KvM} {k : List UInt8} : k ∈ sortedKeys S ↔ mGet S (toB k) ≠ none := by
  rw [mem_sorted]
  constructor
  · rintro ⟨x, hx, h⟩ hn
    exact (mGet_none_iff S (toB k)).1 hn x hx h
  · intro h
    cases hg : mGet S (toB k) with
    | none => exact (h hg).elim
    | some v => exact ⟨_, mGet_mem hg, rfl⟩
/-- Stores with the same text have the same. -/
theorem txt_inj {S S' : KvM} (h : txt S = txt S') : mGet S = mGet S' := by
  obtain ⟨h1, h2⟩ := words3 (encs_inj (toB_inj h))
  funext k
  have hk : k = toB k.data.toList := (toB_data k).symm
  generalize k.data.toList = l at hk
  subst hk
  cases hm : mGet S (toB l) with
  | none =>
    have : l ∉ sortedKeys S := fun hx => mGet_sorted.1 hx hm
    rw [h1] at this
    cases hm' : mGet S' (toB l) with
    | none => rfl
    | some v => exact (this (mGet_sorted.2 (by rw [hm']; simp))).elim
  | some v =>
    have hx : l ∈ sortedKeys S := mGet_sorted.2 (by rw [hm]; simp)
    have e := h2 l hx
    rw [h1] at hx
    have hm' := mGet_sorted.1 hx
    cases hg : mGet S' (toB l) with
    | none => exact (hm' hg).elim
    | some v' =>
      unfold cellOf at e
      rw [hm, hg] at e
      simp at e
      rw [e]

/-! ### Calls -/
structure RecM where
  client : Int
  seq : Int
  op : OpM
  frm : Int
  to : Int
  kind : Int
  reason : Int
  res : ResM
def recC (r : RecM) : List Value := [.int .i64 r.client, .int .i64 r.seq, .int .i64 r.op.kind, .string r.op.key, .string r.op.value, .int .i64 r.op.version, .int .i64 r.frm, .int .i64 r.to, .int .i64 r.kind, .int .i64 r.reason, .int .i64 r.res.code, .string r.res.value, .int .i64 r.res.version, .int .i64 r.res.at_]
theorem recC_len (r : RecM) : (recC r).length = 14 := rfl
theorem recC_one (r : RecM) : (recC r).all Value.oneCell' = true := rfl
def recZ : RecM := ⟨0, 0, opZ, 0, 0, 0, 0, resZ⟩
def RecM.done (r : RecM) : Bool := r.kind == 1
def reads (o : OpM) : Bool := decide (o.kind = 1) && decide (opCheck o = 0)
def RecM.stand (r : RecM) : Bool := r.done || (r.kind != 2 && !reads r.op)
def tells (r : RecM) (x : ResM) : Bool := !r.done || (x.code == r.res.code && (x.value.toList == r.res.value.toList) && x.version == r.res.version)
def lookF (f : F) (k : ByteArray) (at_ : Int) : ResM := match f k with
  | none => ⟨2, nilB, 0, at_⟩
  | some (v, n) => ⟨1, v, n, at_⟩
def putF (f : F) (k : ByteArray) (x : Option (ByteArray × Int)) : F := fun k' => if k = k' then x else f k'
def applyF (f : F) (i : Int) (o : OpM) : F × ResM :=
  if i < 1 ∨ 4096 < i ∨ opCheck o ≠ 0 then (f, resZ)
  else if o.kind = 1 then (f, lookF f o.key i)
  else if o.kind = 3 then match f o.key with
    | none => (f, ⟨2, nilB, 0, i⟩)
    | some _ => (putF f o.key none, ⟨1, nilB, 0, i⟩)
  else if o.kind = 4 ∧ ((f o.key).getD (nilB, 0)).2 ≠ o.version then (f, ⟨3, ((f o.key).getD (nilB, 0)).1, ((f o.key).getD (nilB, 0)).2, i⟩)
  else (putF f o.key (some (o.value, i)), ⟨1, nilB, i, i⟩)
theorem kvLook_F (S : KvM) (k : ByteArray) (n : Int) : kvLook S k n = lookF (mGet S) k n := rfl
theorem kvApply_F {S : KvM} (hS : (S.map Prod.fst).Nodup) (i : Int) (o : OpM) : (mGet (kvApply S i o).1, (kvApply S i o).2) = applyF (mGet S) i o := by
  have hd : mGet (mDel S o.key) = putF (mGet S) o.key none := by funext k; rw [mGet_del hS]; rfl
  have hp : ∀ u, mGet (mPut S o.key u) = putF (mGet S) o.key (some u) := fun u => by funext k; rw [mGet_put]; rfl
  unfold kvApply applyF
  split
  · rfl
  split
  · rfl
  split
  · cases hg : mGet S o.key with
    | none => rfl
    | some x => simp only [hd]
  split
  · rfl
  · simp only [hp]
theorem kvApply_nodup {S : KvM} (hS : (S.map Prod.fst).Nodup) (i : Int) (o : OpM) : ((kvApply S i o).1.map Prod.fst).Nodup := by
  unfold kvApply
  split
  · exact hS
  split
  · exact hS
  split
  · split
    · exact hS
    · exact mDel_nodup hS _
  split
  · exact hS
  · exact mPut_nodup hS _ _

/-! ### The search -/
def at_ (l : List RecM) (i : Nat) : RecM := l.getD i recZ
def allDone (l : List RecM) (st : List Nat) : Bool := (List.range l.length).all fun i => !(at_ l i).done || st.contains i
def may (l : List RecM) (st : List Nat) (i : Nat) : Bool := !st.contains i && (at_ l i).stand && (List.range l.length).all fun j => !((at_ l j).done && !st.contains j && decide (0 ≤ (at_ l j).to) && decide ((at_ l j).to < (at_ l i).frm))
def stp (f : F) (n : Int) (r : RecM) : F × Int × ResM := if reads r.op then (f, n, lookF f r.op.key n) else ((applyF f (n + 1) r.op).1, n + 1, (applyF f (n + 1) r.op).2)
def solve (l : List RecM) : Nat → List Nat → F → Int → Option (List Nat)
  | 0, st, _, _ => if allDone l st then some st else none
  | m + 1, st, f, n => if allDone l st then some st else (List.range l.length).findSome? fun i =>
    if may l st i && tells (at_ l i) (stp f n (at_ l i)).2.2 then solve l m (st ++ [i]) (stp f n (at_ l i)).1 (stp f n (at_ l i)).2.1 else none
/-- The ways on from a state, one by one. -/
def way (l : List RecM) (m : Nat) (st : List Nat) (f : F) (n : Int) (i : Nat) : Option (List Nat) :=
  if may l st i && tells (at_ l i) (stp f n (at_ l i)).2.2 then solve l m (st ++ [i]) (stp f n (at_ l i)).1 (stp f n (at_ l i)).2.1 else none
theorem solve_succ (l : List RecM) (m : Nat) (st : List Nat) (f : F) (n : Int) (h : allDone l st = false) : solve l (m + 1) st f n = (List.range l.length).findSome? (way l m st f n) := by
  rw [solve, h]; rfl
theorem solve_done {l : List RecM} {st : List Nat} (h : allDone l st = true) (m : Nat) (f : F) (n : Int) : solve l m st f n = some st := by
  cases m <;> simp [solve, h]
def Alike (st st' : List Nat) : Prop := ∀ i, i ∈ st ↔ i ∈ st'
theorem Alike.cont {st st' : List Nat} (h : Alike st st') (i : Nat) : st.contains i = st'.contains i := by
  have := h i
  by_cases hi : i ∈ st
  · simp [hi, this.1 hi]
  · have h2 : i ∉ st' := fun hh => hi (this.2 hh)
    simp [hi, h2]
theorem Alike.done {st st' : List Nat} (h : Alike st st') (l : List RecM) : allDone l st = allDone l st' := by
  unfold allDone; congr 1; funext i; rw [h.cont]
theorem Alike.may {st st' : List Nat} (h : Alike st st') (l : List RecM) (i : Nat) : may l st i = may l st' i := by
  unfold Br.may; rw [h.cont]; congr 1; congr 1; funext j; rw [h.cont]
theorem Alike.snoc {st st' : List Nat} (h : Alike st st') (i : Nat) : Alike (st ++ [i]) (st' ++ [i]) := fun j => by simp [h j]
theorem solve_alike (l : List RecM) : ∀ (m : Nat) {st st' : List Nat} (f : F) (n : Int), Alike st st' → (solve l m st f n = none ↔ solve l m st' f n = none)
  | 0, st, st', f, n, h => by rw [solve, solve, h.done l]; split <;> simp
  | m + 1, st, st', f, n, h => by
    rw [solve, solve, h.done l]
    split
    · simp
    · rw [List.findSome?_eq_none_iff, List.findSome?_eq_none_iff]
      refine forall_congr' fun i => imp_congr_right fun _ => ?_
      rw [h.may l i]
      split
      · exact solve_alike l m _ _ (h.snoc i)
      · rfl
/-- How many of those that stand are updates. -/
def upd (l : List RecM) (st : List Nat) : Nat := ((List.range l.length).filter fun i => st.contains i && !reads (at_ l i).op).length
theorem upd_alike {l : List RecM} {st st' : List Nat} (h : Alike st st') : upd l st = upd l st' := by
  unfold upd; congr 1; apply List.filter_congr; intro i _; rw [h.cont]
theorem upd_le (l : List RecM) (st : List Nat) : upd l st ≤ l.length := by
  have := List.length_filter_le (fun i => st.contains i && !reads (at_ l i).op) (List.range l.length)
  simpa [upd] using this
theorem upd_nil (l : List RecM) : upd l [] = 0 := by simp [upd]
theorem filter_one {p q : Nat → Bool} : ∀ {L : List Nat} {i : Nat}, L.Nodup → i ∈ L → (∀ j, j ≠ i → p j = q j) → p i = true → q i = false → (L.filter p).length = (L.filter q).length + 1
  | [], _, _, h, _, _, _ => by cases h
  | x :: L, i, hn, hi, hpq, hp, hq => by
    obtain ⟨h1, h2⟩ := List.nodup_cons.1 hn
    rcases List.mem_cons.1 hi with rfl | hi
    · have : L.filter p = L.filter q := List.filter_congr fun j hj => hpq j fun e => h1 (e ▸ hj)
      simp [hp, hq, this]
    · have hx : x ≠ i := fun e => h1 (e ▸ hi)
      have ih := filter_one h2 hi hpq hp hq
      simp only [List.filter_cons, hpq x hx]
      split <;> simp [ih]
theorem upd_snoc {l : List RecM} {st : List Nat} {i : Nat} (hi : i < l.length) (hn : i ∉ st) : (upd l (st ++ [i]) : Int) = if reads (at_ l i).op then (upd l st : Int) else upd l st + 1 := by
  unfold upd
  by_cases hr : reads (at_ l i).op = true
  · rw [if_pos hr]
    congr 2
    apply List.filter_congr
    intro j _
    by_cases hj : j = i
    · subst hj; simp [hr]
    · simp [hj]
  · rw [if_neg hr]
    rw [filter_one (q := fun i => st.contains i && !reads (at_ l i).op) (i := i) List.nodup_range (List.mem_range.2 hi) (fun j hj => by simp [hj]) (by simpa using hr) (by simp [hn])]
    rfl
theorem may_of {l : List RecM} {st : List Nat} {i : Nat} (h : may l st i = true) : i ∉ st ∧ (at_ l i).stand = true := by
  unfold may at h
  simp only [Bool.and_eq_true] at h
  exact ⟨by simpa using h.1.1, h.1.2⟩
theorem stp_n (f : F) (n : Int) (r : RecM) : (stp f n r).2.1 = if reads r.op then n else n + 1 := by
  unfold stp; split <;> rfl
end Go.Proofs.YthabecjplpomhaaDoor.Br
