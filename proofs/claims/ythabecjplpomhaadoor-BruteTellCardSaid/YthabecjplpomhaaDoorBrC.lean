/- Layer 33: what a store has, as a text. No condition but the table of powers of ten. -/
import Derived.Test.YthabecjplpomhaaDoorBrW
import Derived.Lib.ItoaLen
namespace Go.Proofs.YthabecjplpomhaaDoor.Br
open Go Go.Proofs.YthabecjplpomhaaDoor.Vg Go.Proofs.YthabecjplpomhaaDoor.T Go.Proofs.YthabecjplpomhaaDoor.Api Go.Proofs.YthabecjplpomhaaDoor.Kv Go.Proofs.YthabecjplpomhaaDoor.LibC
set_option linter.unusedSimpArgs false
set_option linter.unusedVariables false
attribute [local irreducible] VO VC VA

/-! ### Bounds -/
structure Good (S : KvM) : Prop where
  few : S.length ≤ 100
  at_ : ∀ x ∈ S, x.1.size ≤ 16 ∧ x.2.1.size ≤ 64 ∧ -1 ≤ x.2.2 ∧ x.2.2 ≤ 5000
theorem Good.small {S : KvM} (h : Good S) : Small S := ⟨by have := h.few; omega, fun x hx => by
  have := (h.at_ x hx).1
  have e : maxLen = 9223372036854775807 := by decide
  omega⟩
theorem Good.cell {S : KvM} (h : Good S) (k : List UInt8) : (cellOf S k).1.size ≤ 64 ∧ -1 ≤ (cellOf S k).2 ∧ (cellOf S k).2 ≤ 5000 := by
  unfold cellOf
  cases hg : mGet S (toB k) with
  | none => exact ⟨Nat.zero_le _, by decide, by decide⟩
  | some v => exact (h.at_ _ (mGet_mem hg)).2
theorem toB_append (a b : List UInt8) : toB (a ++ b) = toB a ++ toB b := ByteArray.ext (by simp [toB])
theorem toB_size (a : List UInt8) : (toB a).size = a.length := by show (a.toArray).size = _; simp
theorem data_len (s : ByteArray) : s.data.toList.length = s.size := by show s.data.toList.length = s.data.size; simp
theorem encW_len {w : List UInt8} (h : w.length ≤ 64) : (encW w).length ≤ 86 := by
  have := Lib.itoa_length_le (w.length : Int) (by omega) (by omega)
  simp only [encW, List.length_append, List.length_cons]; omega
theorem words_len {S : KvM} (h : Good S) {k : List UInt8} (hk : k.length ≤ 16) : ∀ x ∈ words S k, x.length ≤ 64 := by
  obtain ⟨h1, h2, h3⟩ := h.cell k
  have := Lib.itoa_length_le (cellOf S k).2 (by omega) (by omega)
  intro x hx
  simp only [words, List.mem_cons, List.not_mem_nil, or_false] at hx
  rcases hx with rfl | rfl | rfl
  · omega
  · rw [data_len]; omega
  · omega
theorem flat_enc_len : ∀ {l : List (List UInt8)}, (∀ x ∈ l, x.length ≤ 64) → (l.flatMap encW).length ≤ 86 * l.length
  | [], _ => by simp
  | x :: l, h => by
    have h1 := encW_len (h x (by simp))
    have h2 := flat_enc_len (l := l) (fun y hy => h y (by simp [hy]))
    simp only [List.flatMap_cons, List.length_append, List.length_cons]; omega
theorem key_len {S : KvM} (h : Good S) {k : List UInt8} (hk : k ∈ sortedKeys S) : k.length ≤ 16 := by
  obtain ⟨x, hx, e⟩ := mem_sorted.1 hk
  have := (h.at_ x hx).1
  rw [e, toB_size] at this; exact this
theorem txtL_len {S : KvM} (h : Good S) : ∀ {ks : List (List UInt8)}, (∀ k ∈ ks, k.length ≤ 16) → (txtL S ks).length ≤ 258 * ks.length
  | [], _ => by simp [txtL]
  | k :: ks, hk => by
    have h1 := flat_enc_len (words_len h (hk k (by simp)))
    have h2 := txtL_len h (ks := ks) (fun x hx => hk x (by simp [hx]))
    unfold txtL at h2 ⊢
    simp only [List.flatMap_cons, List.flatMap_append, List.length_append, List.length_cons]
    have e : (words S k).length = 3 := rfl
    omega
theorem sorted_len {α : Type} (S : List (ByteArray × α)) : (sortedKeys S).length = S.length := by simp [sortedKeys]
theorem look_cell (S : KvM) (k : List UInt8) : ∃ c, kvLook S (toB k) 0 = ⟨c, (cellOf S k).1, (cellOf S k).2, 0⟩ := by
  unfold kvLook cellOf
  cases mGet S (toB k) with
  | none => exact ⟨2, rfl⟩
  | some v => exact ⟨1, rfl⟩
theorem txtL_take {S : KvM} {ks : List (List UInt8)} {i : Nat} {k : List UInt8} (h : ks[i]? = some k) : txtL S (ks.take (i + 1)) = txtL S (ks.take i) ++ (words S k).flatMap encW := by
  rw [List.take_add_one, h]; simp [txtL, List.flatMap_append]
theorem enc_text (w : ByteArray) : numT (w.size : Int) ++ ⟨#[58]⟩ ++ w = toB (encW w.data.toList) := by
  have e1 : numT (w.size : Int) = toB (Lib.itoa (w.size : Int)) := rfl
  have e2 : (⟨#[58]⟩ : ByteArray) = toB [58] := rfl
  have e3 : w = toB w.data.toList := (toB_data w).symm
  conv => lhs; rw [e1, e2]; rhs; rw [e3]
  rw [← toB_append, ← toB_append, encW, data_len]; simp

def wordsB (S : KvM) (k : List UInt8) : List ByteArray := [toB k, (cellOf S k).1, numT (cellOf S k).2]
theorem wordsB_words (S : KvM) (k : List UInt8) : (wordsB S k).map (fun w => w.data.toList) = words S k := by simp [wordsB, words, numT, toB]
theorem wordsB_at {S : KvM} {k : List UInt8} {m : Nat} {x : ByteArray} (h : (wordsB S k)[m]? = some x) : (words S k)[m]? = some x.data.toList := by
  rw [← wordsB_words, List.getElem?_map, h]; rfl

set_option maxRecDepth 100000 in
set_option maxHeartbeats 1000000 in
theorem cells_spec (Fr : Nat → Prop) (w : World) {p : Nat} {S : KvM} (h : SatIn Fr [kvH p S] w) (hS : Good S) (hT : TabF Fr w) :
    Tri Tryd.prog 34 [.pointer (some ⟨p, 0, none⟩)] Fr w [] (fun v L => v = .string (txt S) ∧ L = []) := by
  have hlen := sorted_len S
  have hfew := hS.few
  refine Tri.of 41 Tryd.func34 rfl (by kernel_rfl) tabOk rfl rfl ?_
  (repeat (first | refine VC.seq ?_ | refine VC.region ?_ | refine VC.block ?_ | refine VC.label ?_ | refine VC.scope ?_ | refine VO.go (VO.nil ?_) | refine VO.go (VO.ld 0 rfl rfl rfl rfl ?_)))
  refine VO.go (VO.allocB rfl fun b hB => ?_)
  refine VO.ent (L' := [txtH w.heap.size b (toB [])]) (Imp.bldF hB Imp.refl).ent ?_
  (repeat (first | refine VC.seq ?_ | refine VC.region ?_ | refine VC.block ?_ | refine VC.label ?_ | refine VC.scope ?_ | refine VO.go (VO.nil ?_) | refine VO.go (VO.ld 0 rfl rfl rfl rfl ?_)))
  refine VO.go (VO.call (Lc := []) (fun Fr w hF hs hS' => skeys_spec Fr w (h.of hF hs) hS.small) rfl rfl ?_)
  rintro _ _ ⟨a, cap, rfl, hc, rfl⟩
  have hfl : slH 9 1 a S.length cap ((sortedKeys S).map Proofs.encStr) = slH 9 1 a (sortedKeys S).length cap (flat (fun k => [Proofs.encStr k]) (sortedKeys S)) := by rw [flat_one, hlen]
  have hvl : Value.slice a S.length cap = Value.slice a (sortedKeys S).length cap := by rw [hlen]
  rw [hfl, hvl]
  refine VO.opn 0 rfl (HOpn.rl _ a cap (sortedKeys S) (fun _ => rfl)) ?_
  rintro r ⟨hok, hv, hx⟩
  rw [← hv]
  have hrl : r.xs.length = S.length := by rw [hx, hlen]
  (repeat (first | refine VC.seq ?_ | refine VC.region ?_ | refine VC.block ?_ | refine VC.label ?_ | refine VC.scope ?_ | refine VO.go (VO.nil ?_) | refine VO.go (VO.ld 0 rfl rfl rfl rfl ?_)))
  refine VC.loop (σ := Nat) (fun i => [(0, .pointer (some ⟨p, 0, none⟩)), (3, .pointer (some ⟨b, 0, none⟩)), (10, r.v), (11, .int .i64 r.xs.length), (12, .int .i64 i)]) (fun i => [txtH w.heap.size b (toB (txtL S ((sortedKeys S).take i))), r.h 9]) (fun i => i ≤ S.length) (fun i => S.length - i) 0
    (Nat.zero_le _) (Sub.cons rfl (Sub.cons rfl (Sub.cons rfl (Sub.cons rfl (Sub.cons rfl (Sub.nil _)))))) (Imp.pick 1 rfl (Imp.pick 0 rfl Imp.nil)).ent ?_
  intro i hi
  (repeat (first | refine VC.seq ?_ | refine VC.region ?_ | refine VC.block ?_ | refine VC.label ?_ | refine VC.scope ?_ | refine VO.go (VO.nil ?_) | refine VO.go (VO.ld 0 rfl rfl rfl rfl ?_)))
  refine VC.condP rfl (fun h1 => VC.skip ?_) (fun h1 => VC.exit ?_)
  · have hi2 : i < S.length := by omega
    have hxi : r.xs[i]? = some (r.xs[i]'(by omega)) := by simp [show i < r.xs.length by omega]
    generalize r.xs[i]'(by omega) = k at hxi
    obtain ⟨kb, ko, e1, e2, hrd⟩ := hok.ld hxi rfl
    have hkm : k ∈ sortedKeys S := by rw [← hx]; exact List.mem_of_getElem? hxi
    have hk16 := key_len hS hkm
    obtain ⟨code, hlook⟩ := look_cell S k
    obtain ⟨c1, c2, c3⟩ := hS.cell k
    have hxi' : (sortedKeys S)[i]? = some k := by rw [← hx]; exact hxi
    have hT1 := txtL_len hS (ks := (sortedKeys S).take i) (fun x hx => key_len hS (List.mem_of_mem_take hx))
    have hT2 : ((sortedKeys S).take i).length ≤ 100 := by rw [List.length_take]; omega
    have hrv : r.v = .slice (some ⟨kb, ko, none⟩) r.xs.length r.cap := by rw [RL.v, e2]
    rw [hrv]
    (repeat (first | refine VC.seq ?_ | refine VC.region ?_ | refine VC.block ?_ | refine VC.label ?_ | refine VC.scope ?_ | refine VO.go (VO.nil ?_) | refine VO.go (VO.ld 0 rfl rfl rfl rfl ?_)))
    refine VO.go (VO.light (light_idx i rfl rfl rfl rfl rfl rfl (by omega)) ?_)
    refine VO.go (VO.load rfl rfl ((hrd 1 rfl).2 _ 0 _ rfl rfl) ?_)
    (repeat (first | refine VC.seq ?_ | refine VC.region ?_ | refine VC.block ?_ | refine VC.label ?_ | refine VC.scope ?_ | refine VO.go (VO.nil ?_) | refine VO.go (VO.ld 0 rfl rfl rfl rfl ?_)))
    refine VO.go (VO.callV' (fun Fr w hF hs _ => look_spec Fr w (h.of hF hs) (toB k) 0) rfl ?_)
    rw [hlook]
    refine VO.go (VO.alloc rfl fun q => ?_)
    refine VO.go (VO.stA (vs := resC ⟨code, (cellOf S k).1, (cellOf S k).2, 0⟩) 0 rfl rfl rfl rfl (Nat.le_refl _) rfl rfl rfl ?_)
    (repeat (first | refine VC.seq ?_ | refine VC.region ?_ | refine VC.block ?_ | refine VC.label ?_ | refine VC.scope ?_ | refine VO.go (VO.nil ?_) | refine VO.go (VO.ld 0 rfl rfl rfl rfl ?_)))
    refine VC.draw (ts 0 5 (.take 8 (.only 5 (.only 6 (.take 7 .nil))))) (by kernel_rfl) (by decide +kernel) ?_
    (repeat (first | refine VA.go (VA.nil ?_) | refine VA.go (VA.ld 0 rfl rfl rfl rfl rfl ?_)))
    refine VA.go (VA.callR (fun Fr w hF hs _ => itoa_spec Fr w (cellOf S k).2 (by omega) (by omega) (TabF.st rfl hT hF hs)) rfl rfl (by (try refine Pd.st ?_); (repeat (first | exact Pd.nil | exact Pd.fnil | refine Pd.inner ?_ | refine Pd.skip (by decide +kernel) ?_ | refine Pd.fcons (RdL.one 0 rfl rfl) ?_ | refine Pd.fcons (RdL.one 1 rfl rfl) ?_ | refine Pd.fcons (RdL.one 2 rfl rfl) ?_ | refine Pd.fcons (RdL.many 0 rfl rfl) ?_ | refine Pd.fcons (RdL.many 1 rfl rfl) ?_ | refine Pd.fcons (RdL.many 2 rfl rfl) ?_ | refine Pd.cons (RdL.one 0 rfl rfl) ?_ | refine Pd.cons (RdL.one 1 rfl rfl) ?_ | refine Pd.cons (RdL.one 2 rfl rfl) ?_ | refine Pd.cons (RdL.many 0 rfl rfl) ?_ | refine Pd.cons (RdL.many 1 rfl rfl) ?_ | refine Pd.cons (RdL.many 2 rfl rfl) ?_ | refine Pd.fconsM (MpL.one 0 rfl) ?_ | refine Pd.fconsM (MpL.one 1 rfl) ?_ | refine Pd.fconsM (MpL.one 2 rfl) ?_ | refine Pd.consM (MpL.one 0 rfl) ?_ | refine Pd.consM (MpL.one 1 rfl) ?_ | refine Pd.consM (MpL.one 2 rfl) ?_))) ?_)
    refine VA.go (VA.opP (OpT.buildSlice (n := 3) (pv := [(0, .string (toB k)), (1, .string (cellOf S k).1), (2, .string (numT (cellOf S k).2))]) (cells := (wordsB S k).map Value.string) rfl rfl rfl rfl (by decide) rfl) rfl ?_ ?_)
    · rintro v L' ⟨sb, rfl, rfl⟩
      exact (by (try refine Pd.st ?_); (repeat (first | exact Pd.nil | exact Pd.fnil | refine Pd.inner ?_ | refine Pd.skip (by decide +kernel) ?_ | refine Pd.fcons (RdL.one 0 rfl rfl) ?_ | refine Pd.fcons (RdL.one 1 rfl rfl) ?_ | refine Pd.fcons (RdL.one 2 rfl rfl) ?_ | refine Pd.fcons (RdL.one 3 rfl rfl) ?_ | refine Pd.fcons (RdL.many 0 rfl rfl) ?_ | refine Pd.fcons (RdL.many 1 rfl rfl) ?_ | refine Pd.fcons (RdL.many 2 rfl rfl) ?_ | refine Pd.fcons (RdL.many 3 rfl rfl) ?_ | refine Pd.cons (RdL.one 0 rfl rfl) ?_ | refine Pd.cons (RdL.one 1 rfl rfl) ?_ | refine Pd.cons (RdL.one 2 rfl rfl) ?_ | refine Pd.cons (RdL.one 3 rfl rfl) ?_ | refine Pd.cons (RdL.many 0 rfl rfl) ?_ | refine Pd.cons (RdL.many 1 rfl rfl) ?_ | refine Pd.cons (RdL.many 2 rfl rfl) ?_ | refine Pd.cons (RdL.many 3 rfl rfl) ?_ | refine Pd.fconsM (MpL.one 0 rfl) ?_ | refine Pd.fconsM (MpL.one 1 rfl) ?_ | refine Pd.fconsM (MpL.one 2 rfl) ?_ | refine Pd.fconsM (MpL.one 3 rfl) ?_ | refine Pd.consM (MpL.one 0 rfl) ?_ | refine Pd.consM (MpL.one 1 rfl) ?_ | refine Pd.consM (MpL.one 2 rfl) ?_ | refine Pd.consM (MpL.one 3 rfl) ?_)))
    rintro v L' ⟨sb, rfl, rfl⟩
    (repeat (first | refine VA.go (VA.nil ?_) | refine VA.go (VA.ld 0 rfl rfl rfl rfl rfl ?_)))
    (repeat (first | refine VC.seq ?_ | refine VC.region ?_ | refine VC.block ?_ | refine VC.label ?_ | refine VC.scope ?_ | refine VO.go (VO.nil ?_) | refine VO.go (VO.ld 0 rfl rfl rfl rfl ?_)))
    have hw3 : (wordsB S k).length = 3 := rfl
    refine VC.loop (σ := Nat) (fun m => [(0, .pointer (some ⟨p, 0, none⟩)), (3, .pointer (some ⟨b, 0, none⟩)), (10, .slice (some ⟨kb, ko, none⟩) r.xs.length r.cap), (11, .int .i64 r.xs.length), (12, .int .i64 i), (25, .slice (some ⟨sb, 0, none⟩) 3 3), (26, .int .i64 3), (27, .int .i64 m)])
      (fun m => [txtH w.heap.size b (toB (txtL S ((sortedKeys S).take i) ++ ((words S k).take m).flatMap encW)), pt sb ((wordsB S k).map Value.string) 9, r.h 9]) (fun m => m ≤ 3) (fun m => 3 - m) 0
      (Nat.zero_le _) (Sub.cons rfl (Sub.cons rfl (Sub.cons rfl (Sub.cons rfl (Sub.cons rfl (Sub.cons rfl (Sub.cons rfl (Sub.cons rfl (Sub.nil _))))))))) ?_ ?_
    · simp only [List.take_zero, List.flatMap_nil, List.append_nil]
      exact (Imp.pick 2 rfl (Imp.pick 0 rfl (Imp.pick 1 rfl Imp.nil))).ent
    intro m hm
    (repeat (first | refine VC.seq ?_ | refine VC.region ?_ | refine VC.block ?_ | refine VC.label ?_ | refine VC.scope ?_ | refine VO.go (VO.nil ?_) | refine VO.go (VO.ld 0 rfl rfl rfl rfl ?_)))
    refine VC.condP rfl (fun h2 => VC.skip ?_) (fun h2 => VC.exit ?_)
    · have hm2 : m < 3 := by omega
      obtain ⟨x, hxm⟩ : ∃ x, (wordsB S k)[m]? = some x := ⟨_, List.getElem?_eq_getElem (by rw [hw3]; exact hm2)⟩
      have hxw := wordsB_at hxm
      have hx64 := words_len hS hk16 _ (List.mem_of_getElem? hxw)
      rw [data_len] at hx64
      have hsz : (numT (x.size : Int)).size ≤ 21 := by
        have := Lib.itoa_length_le (x.size : Int) (by omega) (by omega)
        show (toB (Lib.itoa (x.size : Int))).size ≤ 21
        rw [toB_size]; exact this
      have hT3 := flat_enc_len (l := (words S k).take m) (fun y hy => words_len hS hk16 y (List.mem_of_mem_take hy))
      have hT4 : ((words S k).take m).length ≤ 3 := by rw [List.length_take]; exact Nat.min_le_right _ _
      (repeat (first | refine VC.seq ?_ | refine VC.region ?_ | refine VC.block ?_ | refine VC.label ?_ | refine VC.scope ?_ | refine VO.go (VO.nil ?_) | refine VO.go (VO.ld 0 rfl rfl rfl rfl ?_)))
      refine VO.go (VO.light (light_idx m rfl rfl rfl rfl rfl rfl hm2) ?_)
      refine VO.go (VO.ld 1 (v := .string x) rfl rfl rfl (by show ((wordsB S k).map Value.string)[0 + m * 1]? = _; rw [Nat.zero_add, Nat.mul_one, List.getElem?_map, hxm]; rfl) ?_)
      (repeat (first | refine VC.seq ?_ | refine VC.region ?_ | refine VC.block ?_ | refine VC.label ?_ | refine VC.scope ?_ | refine VO.go (VO.nil ?_) | refine VO.go (VO.ld 0 rfl rfl rfl rfl ?_)))
      refine VO.go (VO.callV' (fun Fr w hF hs _ => itoa_spec Fr w (x.size : Int) (by omega) (by omega) (TabF.st rfl hT hF hs)) rfl ?_)
      refine VO.go (VO.light (light_cat rfl rfl (by show _ + 1 ≤ _; omega)) ?_)
      (repeat (first | refine VC.seq ?_ | refine VC.region ?_ | refine VC.block ?_ | refine VC.label ?_ | refine VC.scope ?_ | refine VO.go (VO.nil ?_) | refine VO.go (VO.ld 0 rfl rfl rfl rfl ?_)))
      refine VO.go (VO.light (light_cat rfl rfl (by rw [ByteArray.size_append]; show _ + 1 + _ ≤ _; omega)) ?_)
      rw [enc_text x]
      refine VO.go (VO.write rfl 0 rfl (nb_cons (NB.pt (by decide)) (nb_cons (NB.rl (by decide)) nb_nil)) ?_ rfl ?_)
      · rw [toB_size, toB_size, List.length_append]
        have := encW_len (w := x.data.toList) (by rw [data_len]; exact hx64)
        omega
      rw [← toB_append, List.append_assoc]
      (repeat (first | refine VC.seq ?_ | refine VC.region ?_ | refine VC.block ?_ | refine VC.label ?_ | refine VC.scope ?_ | refine VO.go (VO.nil ?_) | refine VO.go (VO.ld 0 rfl rfl rfl rfl ?_)))
      refine VO.go (VO.add rfl rfl (by omega) (by omega) ?_)
      (repeat (first | refine VC.seq ?_ | refine VC.region ?_ | refine VC.block ?_ | refine VC.label ?_ | refine VC.scope ?_ | refine VO.go (VO.nil ?_) | refine VO.go (VO.ld 0 rfl rfl rfl rfl ?_)))
      refine ⟨m + 1, hm2, by dsimp only; omega, Sub.cons rfl (Sub.cons rfl (Sub.cons rfl (Sub.cons rfl (Sub.cons rfl (Sub.cons rfl (Sub.cons rfl (Sub.cons rfl (Sub.nil _)))))))), ?_⟩
      dsimp only
      rw [List.take_add_one, hxw, List.flatMap_append]
      simp only [Option.toList_some, List.flatMap_cons, List.flatMap_nil, List.append_nil]
      exact Ent.refl
    · obtain rfl : m = 3 := by omega
      (repeat (first | refine VC.seq ?_ | refine VC.region ?_ | refine VC.block ?_ | refine VC.label ?_ | refine VC.scope ?_ | refine VO.go (VO.nil ?_) | refine VO.go (VO.ld 0 rfl rfl rfl rfl ?_)))
      refine VO.go (VO.add rfl rfl (by omega) (by omega) ?_)
      (repeat (first | refine VC.seq ?_ | refine VC.region ?_ | refine VC.block ?_ | refine VC.label ?_ | refine VC.scope ?_ | refine VO.go (VO.nil ?_) | refine VO.go (VO.ld 0 rfl rfl rfl rfl ?_)))
      refine ⟨i + 1, hi2, by dsimp only; omega, Sub.cons rfl (Sub.cons rfl (Sub.cons rfl (Sub.cons rfl (Sub.cons rfl (Sub.nil _))))), ?_⟩
      dsimp only
      rw [txtL_take hxi']
      exact (Imp.pick 0 rfl (Imp.pick 1 rfl Imp.nil)).ent
  · have hi3 : i = S.length := by omega
    subst hi3
    (repeat (first | refine VC.seq ?_ | refine VC.region ?_ | refine VC.block ?_ | refine VC.label ?_ | refine VC.scope ?_ | refine VO.go (VO.nil ?_) | refine VO.go (VO.ld 0 rfl rfl rfl rfl ?_)))
    refine VO.go (VO.text rfl 0 rfl (nb_cons (NB.rl (by decide)) nb_nil) rfl ?_)
    (repeat (first | refine VC.seq ?_ | refine VC.region ?_ | refine VC.block ?_ | refine VC.label ?_ | refine VC.scope ?_ | refine VO.go (VO.nil ?_) | refine VO.go (VO.ld 0 rfl rfl rfl rfl ?_)))
    refine VC.ret (Ret.tmp 2 rfl rfl Imp.nil.ent ⟨?_, rfl⟩)
    rw [List.take_of_length_le (by omega)]; rfl
end Go.Proofs.YthabecjplpomhaaDoor.Br
