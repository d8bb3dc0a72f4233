/- Layer 24, plain: what is put of a step is read as it. No program. No condition. -/
import Derived.Test.YtceobomlmdmicaaDoorSc9
import Derived.Lib.AtoiAllCases
namespace Go.Proofs.YtceobomlmdmicaaDoor.Scr
open Go Go.Proofs.YtceobomlmdmicaaDoor.Vg Go.Proofs.YtceobomlmdmicaaDoor.T Go.Proofs.YtceobomlmdmicaaDoor.Api Go.Proofs.YtceobomlmdmicaaDoor.LibC
set_option linter.unusedSimpArgs false
set_option linter.unusedVariables false

theorem digit_nat (u : Nat) (h : u < 10) : (UInt8.ofNat (48 + u)).toNat = 48 + u := by
  have : (48 + u) % 256 = 48 + u := Nat.mod_eq_of_lt (by omega)
  simp [this]
theorem digits_range : ∀ u : Nat, ∀ c ∈ Lib.decDigits u, 48 ≤ c.toNat ∧ c.toNat ≤ 57 := fun u => by
  induction u using Nat.strongRecOn with
  | _ u ih =>
    intro c hc
    rw [Lib.decDigits] at hc
    split at hc
    · rename_i h
      simp only [List.mem_singleton] at hc; subst hc
      rw [digit_nat u h]; omega
    · rename_i h
      rcases List.mem_append.1 hc with hc | hc
      · exact ih (u / 10) (by omega) c hc
      · simp only [List.mem_singleton] at hc; subst hc
        rw [digit_nat _ (by omega)]; omega
theorem digits_ne (u : Nat) : Lib.decDigits u ≠ [] := fun h => by
  have := Lib.decDigits_length u
  rw [h] at this
  have := Lib.nDigits_pos u
  simp at *; omega
theorem parse_app : ∀ (l r : List UInt8) (acc v : Nat), Lib.parseUint10 acc l = .ok v → Lib.parseUint10 acc (l ++ r) = Lib.parseUint10 v r
  | [], r, acc, v, h => by
    rw [Lib.parseUint10] at h
    injection h with h
    rw [List.nil_append, h]
  | c :: l, r, acc, v, h => by
    rw [Lib.parseUint10] at h
    rw [List.cons_append, Lib.parseUint10]
    split at h
    · rename_i h1
      rw [if_pos h1]
      split at h
      · cases h
      · rename_i h2
        rw [if_neg h2]
        split at h
        · cases h
        · rename_i h3
          rw [if_neg h3]
          exact parse_app l r _ v h
    · cases h
theorem parse_digits : ∀ u : Nat, u < 18446744073709551616 → Lib.parseUint10 0 (Lib.decDigits u) = .ok u := fun u => by
  induction u using Nat.strongRecOn with
  | _ u ih =>
    intro hu
    rw [Lib.decDigits]
    split
    · rename_i h
      rw [Lib.parseUint10, digit_nat u h, if_pos (by omega), if_neg (by omega), if_neg (by omega), Lib.parseUint10]
      congr 1; omega
    · rename_i h
      have h1 := ih (u / 10) (by omega) (by omega)
      rw [parse_app _ _ _ _ h1, Lib.parseUint10, digit_nat _ (by omega), if_pos (by omega), if_neg (by omega), if_neg (by omega), Lib.parseUint10]
      congr 1; omega
theorem mag_digits {u : Nat} (hu : u < 18446744073709551616) : Lib.parseMag (Lib.decDigits u) = .ok u := by
  unfold Lib.parseMag
  rw [if_neg (digits_ne u), parse_digits u hu]
theorem numOf_num {n : Int} (h : isI n) : numOf (numT n) = some n := by
  obtain ⟨h1, h2⟩ := h
  have hd : (numT n).data.toList = Lib.itoa n := by simp [numT]
  unfold numOf
  rw [hd]
  unfold Lib.itoa
  by_cases hn : n < 0
  · rw [if_pos hn, Lib.atoiAll_minus, mag_digits (by omega)]
    simp only [Lib.signed]
    rw [if_neg (by omega)]
    simp only
    congr 1; omega
  · rw [if_neg hn]
    cases hc : Lib.decDigits n.toNat with
    | nil => exact (digits_ne _ hc).elim
    | cons c r =>
      have hr := digits_range n.toNat c (by rw [hc]; simp)
      rw [Lib.atoiAll_plain c r (by omega) (by omega), ← hc, mag_digits (by omega)]
      simp only [Lib.signless]
      rw [if_neg (by omega)]
      simp only
      congr 1; omega
theorem numR_num {n : Int} (h : isI n) : numR (numT n) = some n := by
  unfold numR; rw [numOf_num h]; exact if_pos rfl
theorem val_dig {n : Nat} (h : n < 16) : val (dig n) = n := by
  have : ∀ n : Fin 16, val (dig n.val) = (n.val : Int) := by decide +kernel
  exact this ⟨n, h⟩
theorem decB_enc : ∀ l : List UInt8, decB (encB l) = some l
  | [] => rfl
  | b :: l => by
    have hb := b.toNat_lt
    have e : encB (b :: l) = dig (b.toNat / 16) :: dig (b.toNat % 16) :: encB l := rfl
    rw [e, decB, val_dig (by omega), val_dig (by omega), if_neg (by omega), decB_enc l]
    simp only [Option.map_some, Int.toNat_natCast]
    rw [show 16 * (b.toNat / 16) + b.toNat % 16 = b.toNat by omega]
    simp
theorem decT_enc (t : ByteArray) : decT (encT t) = some t := by
  unfold decT
  rw [enc_data]
  simp only
  rw [decB_enc]
  simp [toB_data]
/-! ### Words that hold no blank -/
theorem index_first {c : UInt8} : ∀ {w r : List UInt8}, c ∉ w → Lib.index (w ++ c :: r) [c] = w.length
  | [], r, _ => by rw [List.nil_append, Lib.index, if_pos (by simp [List.isPrefixOf])]; rfl
  | b :: w, r, h => by
    have hb : ¬ c = b := fun e => h (by simp [e])
    have ih := index_first (w := w) (r := r) fun hm => h (List.mem_cons_of_mem _ hm)
    rw [List.cons_append, Lib.index, if_neg (by simp [List.isPrefixOf, hb]), ih, if_neg (by simp)]
    simp
theorem index_none {c : UInt8} : ∀ {w : List UInt8}, c ∉ w → Lib.index w [c] = -1
  | [], _ => rfl
  | b :: w, h => by
    have hb : ¬ c = b := fun e => h (by simp [e])
    rw [Lib.index, if_neg (by simp [List.isPrefixOf, hb]), index_none fun hm => h (List.mem_cons_of_mem _ hm)]; rfl
theorem splitK_join {c : UInt8} : ∀ {ws : List (List UInt8)} {w0 : List UInt8}, c ∉ w0 → (∀ w ∈ ws, c ∉ w) → Lib.splitK [c] 0 ws.length (w0 ++ ws.flatMap (c :: ·)) = w0 :: ws
  | [], w0, h0, _ => by simp [Lib.splitK]
  | w1 :: ws, w0, h0, h => by
    have ih := splitK_join (ws := ws) (w0 := w1) (h w1 (by simp)) fun w hw => h w (by simp [hw])
    rw [List.flatMap_cons, List.cons_append, List.length_cons]
    unfold Lib.splitK
    rw [index_first h0, if_neg (by simp)]
    simp only [Int.toNat_natCast, List.length_cons, List.length_nil, Nat.add_zero, Nat.zero_add]
    rw [List.take_left, ← List.drop_drop, List.drop_left]
    simp only [List.drop_succ_cons, List.drop_zero]
    rw [ih]
theorem count_join {c : UInt8} : ∀ {ws : List (List UInt8)} {w0 : List UInt8}, c ∉ w0 → (∀ w ∈ ws, c ∉ w) → (w0 ++ ws.flatMap (c :: ·)).count c = ws.length
  | [], w0, h0, _ => by simpa using List.count_eq_zero.2 h0
  | w1 :: ws, w0, h0, h => by
    have ih := count_join (ws := ws) (w0 := w1) (h w1 (by simp)) fun w hw => h w (by simp [hw])
    rw [List.flatMap_cons, List.count_append, List.count_eq_zero.2 h0, List.cons_append, List.count_cons_self, ih]
    simp
theorem splitW_words {ws : List ByteArray} {w0 : ByteArray} (h0 : (32 : UInt8) ∉ w0.data.toList) (h : ∀ w ∈ ws, (32 : UInt8) ∉ w.data.toList) : splitW (toB (w0.data.toList ++ ws.flatMap (fun w => 32 :: w.data.toList))) = w0 :: ws := by
  have hm : ∀ w ∈ ws.map (fun w => w.data.toList), (32 : UInt8) ∉ w := fun w hw => by
    obtain ⟨x, hx, rfl⟩ := List.mem_map.1 hw
    exact h x hx
  have hf : ws.flatMap (fun w => (32 : UInt8) :: w.data.toList) = (ws.map (fun w => w.data.toList)).flatMap ((32 : UInt8) :: ·) := by rw [List.flatMap_map]
  have hc : Lib.countB (toB (w0.data.toList ++ ws.flatMap (fun w => 32 :: w.data.toList))) spB = ws.length := by
    show Lib.count (toB _).data.toList [32] = _
    rw [toB_list, Lib.count_one, hf, count_join h0 hm, List.length_map]
  have hd := Lib.splitB_data spB 0 ws.length (toB (w0.data.toList ++ ws.flatMap (fun w => 32 :: w.data.toList)))
  rw [show spB.data.toList = [32] from rfl, toB_list, hf, show ws.length = (ws.map (fun w => w.data.toList)).length by simp, splitK_join h0 hm] at hd
  unfold splitW
  rw [hc, hf]
  rw [List.length_map] at hd
  have inj : ∀ {a b : List ByteArray}, a.map (fun w => w.data.toList) = b.map (fun w => w.data.toList) → a = b := by
    intro a
    induction a with
    | nil => intro b hb; cases b with
      | nil => rfl
      | cons y b => cases hb
    | cons x a ih => intro b hb; cases b with
      | nil => cases hb
      | cons y b =>
        rw [List.map_cons, List.map_cons] at hb
        injection hb with h1 h2
        rw [ih h2, ← toB_data x, h1, toB_data]
  exact inj (by rw [hd]; rfl)
end Go.Proofs.YtceobomlmdmicaaDoor.Scr
