/- Layer 24, plain: what is read of a line is put as it was. No program. No condition. -/
import Derived.Test.YtceobomlmdmicaaDoorSc8
namespace Go.Proofs.YtceobomlmdmicaaDoor.Scr
open Go Go.Proofs.YtceobomlmdmicaaDoor.Vg Go.Proofs.YtceobomlmdmicaaDoor.T Go.Proofs.YtceobomlmdmicaaDoor.Api Go.Proofs.YtceobomlmdmicaaDoor.LibC
set_option linter.unusedSimpArgs false
set_option linter.unusedVariables false

theorem RwIn.sl {α : Type} {c : α → List Value} {n el cap : Nat} {a : Option Addr} {xs : List α} {Fr : Nat → Prop} {w : World} (hc : ∀ x, (c x).length = n) (h : SatIn Fr [slH el n a xs.length cap (flat c xs)] w) : RwIn c n Fr w a xs := by
  obtain ⟨F, ⟨ids, G, hF, ⟨h1, h2⟩, hG⟩, hf⟩ := h
  rcases h2 with ⟨rfl, h3, _, _⟩ | ⟨b, rest, rfl, rfl, h4, h5, h6⟩
  · obtain rfl : xs = [] := List.eq_nil_of_length_eq_zero h3
    exact RwIn.nil
  · exact ⟨fun _ => ⟨b, 0, rfl, hf b (by rw [hF]; simp), fun i x hx => rangeAt_blk h6 (by rw [Nat.zero_add]; exact flat_row hc hx rest)⟩⟩
theorem take_drop1 {s : List UInt8} {c : UInt8} {i : Nat} (h : s[i]? = some c) : s = s.take i ++ c :: s.drop (i + 1) := by
  obtain ⟨h1, h2⟩ := List.getElem?_eq_some_iff.1 h
  rw [← h2, ← List.drop_eq_getElem_cons h1, List.take_append_drop]
theorem index_at {s : List UInt8} {c : UInt8} (h : Lib.index s [c] ≠ -1) : ∃ i : Nat, Lib.index s [c] = i ∧ s[i]? = some c := by
  rcases Lib.index_spec s [c] with ⟨h1, _⟩ | ⟨i, h1, h2, h3, _⟩
  · exact (h h1).elim
  · refine ⟨i, h1, ?_⟩
    unfold Lib.occAt at h3
    cases hd : s.drop i with
    | nil => rw [hd] at h3; cases h3
    | cons y ys =>
      rw [hd] at h3
      have hy : c = y := by simpa [List.isPrefixOf] using h3
      have : (s.drop i)[0]? = some y := by rw [hd]; rfl
      rw [List.getElem?_drop] at this
      rw [hy]; simpa using this
theorem split_join (c : UInt8) : ∀ (k : Nat) (s : List UInt8), ∃ w0 ws, Lib.splitK [c] 0 k s = w0 :: ws ∧ s = w0 ++ ws.flatMap (c :: ·)
  | 0, s => ⟨s, [], rfl, by simp⟩
  | k + 1, s => by
    unfold Lib.splitK
    split
    · exact ⟨s, [], rfl, by simp⟩
    · rename_i h
      obtain ⟨i, h1, h2⟩ := index_at (s := s) (c := c) (by simpa using h)
      obtain ⟨w0, ws, h3, h4⟩ := split_join c k (s.drop (i + 1))
      rw [h1]
      refine ⟨s.take i, w0 :: ws, ?_, ?_⟩
      · simp only [Int.toNat_natCast, List.length_cons, List.length_nil, Nat.add_zero]
        rw [← h3]
      · rw [List.flatMap_cons, List.cons_append, ← h4]
        exact take_drop1 h2
theorem splitW_join (s : ByteArray) : ∃ w0 ws, splitW s = w0 :: ws ∧ s.data.toList = w0.data.toList ++ ws.flatMap (fun w => 32 :: w.data.toList) := by
  have h := Lib.splitB_data spB 0 (Lib.countB s spB) s
  obtain ⟨w0, ws, h1, h2⟩ := split_join 32 (Lib.countB s spB) s.data.toList
  rw [show spB.data.toList = [32] from rfl, h1] at h
  cases hs : splitW s with
  | nil => rw [show Lib.splitB spB 0 (Lib.countB s spB) s = splitW s from rfl, hs] at h; cases h
  | cons x xs =>
    rw [show Lib.splitB spB 0 (Lib.countB s spB) s = splitW s from rfl, hs, List.map_cons] at h
    injection h with e1 e2
    refine ⟨x, xs, rfl, ?_⟩
    rw [h2, ← e1, ← e2, List.flatMap_map]
theorem kindTo_eq {w : ByteArray} : ∀ {k : Nat}, kindTo w k ≠ 0 → toB (wordK (kindTo w k)) = w
  | 0, h => (h rfl).elim
  | k + 1, h => by
    rw [kindTo] at h ⊢
    split
    · assumption
    · rename_i h1; rw [if_neg h1] at h; exact kindTo_eq h
theorem numR_eq {s : ByteArray} {n : Int} (h : numR s = some n) : numT n = s ∧ isI n := by
  unfold numR at h
  split at h
  · rename_i m hm
    split at h
    · obtain rfl := Option.some.inj h
      exact ⟨by assumption, numOf_range hm⟩
    · cases h
  · cases h
theorem dig_val (c : UInt8) (h : 0 ≤ val c) : dig (val c).toNat = c := by
  have hh : ∀ n : Fin 256, 0 ≤ val (UInt8.ofNat n.val) → dig (val (UInt8.ofNat n.val)).toNat = UInt8.ofNat n.val := by decide +kernel
  have := hh ⟨c.toNat, c.toNat_lt⟩
  simpa using this (by simpa using h)
theorem decB_eq : ∀ {r l : List UInt8}, decB r = some l → encB l = r
  | [], l, h => by obtain rfl := Option.some.inj h; rfl
  | [_], l, h => by cases h
  | a :: b :: r, l, h => by
    rw [decB] at h
    split at h
    · cases h
    · rename_i hv
      have v1 := val_table a
      have v2 := val_table b
      cases hd : decB r with
      | none => rw [hd] at h; cases h
      | some z =>
        rw [hd] at h
        obtain rfl := Option.some.inj h
        have hn : (UInt8.ofNat (16 * (val a).toNat + (val b).toNat)).toNat = 16 * (val a).toNat + (val b).toNat := by
          rw [UInt8.toNat_ofNat']; omega
        rw [encB, List.flatMap_cons, hn]
        rw [show (16 * (val a).toNat + (val b).toNat) / 16 = (val a).toNat by omega, show (16 * (val a).toNat + (val b).toNat) % 16 = (val b).toNat by omega, dig_val a (by omega), dig_val b (by omega)]
        have := decB_eq hd
        rw [encB] at this
        rw [this]; rfl
theorem decT_eq {s t : ByteArray} (h : decT s = some t) : encT t = s := by
  unfold decT at h
  split at h
  · rename_i r hr
    cases hd : decB r with
    | none => rw [hd] at h; cases h
    | some l =>
      rw [hd] at h
      obtain rfl := Option.some.inj h
      rw [encT, toB_list, decB_eq hd, ← hr, toB_data]
  · cases h
theorem takeN_inv {f : DoM → Int → DoM} {x : RdS} (h : (takeN f x).2.2 = false) : x.2.2 = false ∧ ∃ n, isI n ∧ x.2.1 = numT n :: (takeN f x).2.1 ∧ (takeN f x).1 = f x.1 n := by
  have h : (x.2.2 || (numR (x.2.1.headD nilB)).isNone) = false := h
  rw [Bool.or_eq_false_iff] at h
  refine ⟨h.1, ?_⟩
  cases hn : numR (x.2.1.headD nilB) with
  | none => rw [hn] at h; cases h.2
  | some n =>
    obtain ⟨e1, e2⟩ := numR_eq hn
    cases hx : x.2.1 with
    | nil => rw [hx, show ([] : List ByteArray).headD nilB = nilB from rfl, numR_nil] at hn; cases hn
    | cons y ys =>
      rw [hx] at hn e1
      refine ⟨n, e2, by rw [e1]; show _ = _ :: x.2.1.tail; rw [hx]; rfl, by show f x.1 ((numR (x.2.1.headD nilB)).getD 0) = _; rw [hx, hn]; rfl⟩
theorem takeS_inv {f : DoM → ByteArray → DoM} {x : RdS} (h : (takeS f x).2.2 = false) : x.2.2 = false ∧ ∃ t, x.2.1 = encT t :: (takeS f x).2.1 ∧ (takeS f x).1 = f x.1 t := by
  have h : (x.2.2 || (decT (x.2.1.headD nilB)).isNone) = false := h
  rw [Bool.or_eq_false_iff] at h
  refine ⟨h.1, ?_⟩
  cases hn : decT (x.2.1.headD nilB) with
  | none => rw [hn] at h; cases h.2
  | some n =>
    have e1 := decT_eq hn
    cases hx : x.2.1 with
    | nil => rw [hx, show ([] : List ByteArray).headD nilB = nilB from rfl, decT_nil] at hn; cases hn
    | cons y ys =>
      rw [hx] at hn e1
      refine ⟨n, by rw [e1]; show _ = _ :: x.2.1.tail; rw [hx]; rfl, by show f x.1 ((decT (x.2.1.headD nilB)).getD nilB) = _; rw [hx, hn]; rfl⟩
theorem num_data (n : Int) : (32 :: (numT n).data.toList) = numL n := by simp [numT, numL]
theorem enc_data (t : ByteArray) : (encT t).data.toList = 58 :: encB t.data.toList := by rw [encT, toB_list]
theorem isI_zero : isI 0 := ⟨by decide, by decide⟩
/-- All uses of a kind, read and put. -/
theorem fold_inv {k : Nat} (hk : k < 12) {ws : List ByteArray} {d : DoM} (h : (usesK k).foldl useR (({ doZ with kind := (k : Int) } : DoM), ws, false) = (d, [], false)) :
    d.kind = k ∧ ws.flatMap (fun w => 32 :: w.data.toList) = (usesK k).flatMap (useT d) ∧ ((∀ w ∈ ws, w.size ≤ 2000) → d.Ok) := by
  have hkI : isI (k : Int) := ⟨by omega, by omega⟩
  have hU : usesK k = [97, 98, 99, 111] ∨ usesK k = [97, 98, 99] ∨ usesK k = [97] ∨ usesK k = [] := by
    have : ∀ k, k < 12 → (usesK k = [97, 98, 99, 111] ∨ usesK k = [97, 98, 99] ∨ usesK k = [97] ∨ usesK k = []) := by decide +kernel
    exact this k hk
  rcases hU with hU | hU | hU | hU <;> rw [hU] at h ⊢
  · have h0 : takeS sVal (takeS sKey (takeN sOv (takeN sOk (takeN sCc (takeN sB (takeN sA (({ doZ with kind := (k : Int) } : DoM), ws, false))))))) = (d, [], false) := h
    have hb : (takeS sVal (takeS sKey (takeN sOv (takeN sOk (takeN sCc (takeN sB (takeN sA (({ doZ with kind := (k : Int) } : DoM), ws, false)))))))).2.2 = false := by rw [h0]
    obtain ⟨b7, t2, e7, f7⟩ := takeS_inv hb
    obtain ⟨b6, t1, e6, f6⟩ := takeS_inv b7
    obtain ⟨b5, n5, i5, e5, f5⟩ := takeN_inv b6
    obtain ⟨b4, n4, i4, e4, f4⟩ := takeN_inv b5
    obtain ⟨b3, n3, i3, e3, f3⟩ := takeN_inv b4
    obtain ⟨b2, n2, i2, e2, f2⟩ := takeN_inv b3
    obtain ⟨b1, n1, i1, e1, f1⟩ := takeN_inv b2
    rw [h0] at e7 f7
    have hw : ws = [numT n1, numT n2, numT n3, numT n4, numT n5, encT t1, encT t2] := by
      rw [show ws = ((({ doZ with kind := (k : Int) } : DoM), ws, false) : RdS).2.1 from rfl, e1, e2, e3, e4, e5, e6, e7]
    have hd : d = ⟨k, n1, n2, n3, ⟨n4, t1, t2, n5⟩⟩ := by
      rw [show d = ((d, [], false) : RdS).1 from rfl, f7, f6, f5, f4, f3, f2, f1]; rfl
    subst hd
    refine ⟨rfl, ?_, fun hs => ⟨hkI, i1, i2, i3, i4, i5, ?_, ?_⟩⟩
    · rw [hw]; simp [useT, numL, numT, enc_data]
    · have := hs (encT t1) (by rw [hw]; simp); rw [encT_size] at this; show t1.size ≤ 1000; omega
    · have := hs (encT t2) (by rw [hw]; simp); rw [encT_size] at this; show t2.size ≤ 1000; omega
  · have h0 : takeN sCc (takeN sB (takeN sA (({ doZ with kind := (k : Int) } : DoM), ws, false))) = (d, [], false) := h
    have hb : (takeN sCc (takeN sB (takeN sA (({ doZ with kind := (k : Int) } : DoM), ws, false)))).2.2 = false := by rw [h0]
    obtain ⟨b3, n3, i3, e3, f3⟩ := takeN_inv hb
    obtain ⟨b2, n2, i2, e2, f2⟩ := takeN_inv b3
    obtain ⟨b1, n1, i1, e1, f1⟩ := takeN_inv b2
    rw [h0] at e3 f3
    have hw : ws = [numT n1, numT n2, numT n3] := by
      rw [show ws = ((({ doZ with kind := (k : Int) } : DoM), ws, false) : RdS).2.1 from rfl, e1, e2, e3]
    have hd : d = ⟨k, n1, n2, n3, opZ⟩ := by
      rw [show d = ((d, [], false) : RdS).1 from rfl, f3, f2, f1]; rfl
    subst hd
    refine ⟨rfl, ?_, fun hs => ⟨hkI, i1, i2, i3, isI_zero, isI_zero, (show nilB.size ≤ 1000 by decide), (show nilB.size ≤ 1000 by decide)⟩⟩
    rw [hw]; simp [useT, numL, numT]
  · have h0 : takeN sA (({ doZ with kind := (k : Int) } : DoM), ws, false) = (d, [], false) := h
    have hb : (takeN sA (({ doZ with kind := (k : Int) } : DoM), ws, false)).2.2 = false := by rw [h0]
    obtain ⟨b1, n1, i1, e1, f1⟩ := takeN_inv hb
    rw [h0] at e1 f1
    have hw : ws = [numT n1] := e1
    have hd : d = ⟨k, n1, 0, 0, opZ⟩ := f1
    subst hd
    refine ⟨rfl, ?_, fun hs => ⟨hkI, i1, isI_zero, isI_zero, isI_zero, isI_zero, (show nilB.size ≤ 1000 by decide), (show nilB.size ≤ 1000 by decide)⟩⟩
    rw [hw]; simp [useT, numL, numT]
  · have h0 : (({ doZ with kind := (k : Int) } : DoM), ws, false) = (d, [], false) := h
    injection h0 with h1 h2
    injection h2 with h3 _
    subst h1; subst h3
    exact ⟨rfl, rfl, fun hs => ⟨hkI, isI_zero, isI_zero, isI_zero, isI_zero, isI_zero, (show nilB.size ≤ 1000 by decide), (show nilB.size ≤ 1000 by decide)⟩⟩
theorem lineR_back {s : ByteArray} {d : DoM} (h : lineR s = some d) : lineL d = s.data.toList ++ [10] ∧ (s.size ≤ 2000 → d.Ok) := by
  obtain ⟨w0, ws, hs, hj⟩ := splitW_join s
  have hsz : ∀ w ∈ ws, w.size ≤ s.size := fun w hw => splitW_size (s := s) (by rw [hs]; exact List.mem_cons_of_mem _ hw)
  unfold lineR at h
  rw [hs] at h
  have h : (if kindTo w0 11 = 0 then none else if ((usesK (kindTo w0 11)).foldl useR (({ doZ with kind := (kindTo w0 11 : Nat) } : DoM), ws, false)).2.2 || !((usesK (kindTo w0 11)).foldl useR (({ doZ with kind := (kindTo w0 11 : Nat) } : DoM), ws, false)).2.1.isEmpty then none else some ((usesK (kindTo w0 11)).foldl useR (({ doZ with kind := (kindTo w0 11 : Nat) } : DoM), ws, false)).1) = some d := h
  have hk11 := kindTo_le w0 11
  by_cases hk : kindTo w0 11 = 0
  · rw [if_pos hk] at h; cases h
  · rw [if_neg hk] at h
    have hw0 := kindTo_eq hk
    generalize kindTo w0 11 = k at hk hw0 hk11 h
    generalize hx : (usesK k).foldl useR (({ doZ with kind := (k : Int) } : DoM), ws, false) = x at h
    obtain ⟨x1, x2, x3⟩ := x
    by_cases hb : (x3 || !x2.isEmpty) = true
    · rw [if_pos hb] at h; cases h
    · rw [if_neg hb] at h
      simp only [Bool.or_eq_true, Bool.not_eq_true', not_or, Bool.not_eq_true, Bool.not_eq_false] at hb
      obtain ⟨rfl, hb2⟩ := hb
      obtain rfl : x2 = [] := List.isEmpty_iff.1 hb2
      obtain rfl : x1 = d := Option.some.inj h
      obtain ⟨g1, g2, g3⟩ := fold_inv (by omega) hx
      refine ⟨?_, fun hss => g3 fun w hw => Nat.le_trans (hsz w hw) hss⟩
      have hik : isK x1.kind = true := by rw [g1, isK]; simp; omega
      unfold lineL restL
      rw [hik, if_pos rfl, g1, Int.toNat_natCast, ← g2, hj, ← hw0, toB_list]
theorem cut_back {s : List UInt8} (h : (Lib.cut s [10]).2.2 = true) : s = (Lib.cut s [10]).1 ++ 10 :: (Lib.cut s [10]).2.1 := by
  unfold Lib.cut at h ⊢
  split
  · rename_i h0
    obtain ⟨i, h1, h2⟩ := index_at (s := s) (c := 10) (by omega)
    rw [h1]
    exact take_drop1 h2
  · rename_i h1; rw [if_neg h1] at h; cases h
theorem getR_back : ∀ {f : Nat} {s : List UInt8} {acc l : List DoM} {n e : Int}, s.length < f → getR f s acc = (l, n, e) →
    (e = 0 ∧ n = 0 ∧ putL l = putL acc ++ s ∧ (s.length ≤ 2000 → (∀ d ∈ acc, d.Ok) → ∀ d ∈ l, d.Ok) ∧ l.length ≤ acc.length + s.length) ∨ (e = 10 ∧ 0 < n ∧ l = [])
  | 0, s, acc, l, n, e, h, _ => by omega
  | f + 1, s, acc, l, n, e, hf, h => by
    rw [getR] at h
    split at h
    · rename_i hs
      injection h with h1 h2
      injection h2 with h2 h3
      subst h1; subst h2; subst h3; subst hs
      exact .inl ⟨rfl, rfl, by simp, fun _ h => h, by simp⟩
    · rename_i hs
      have bad : ∀ {l : List DoM} {n e : Int}, (([], (acc.length : Int) + 1, 10) : List DoM × Int × Int) = (l, n, e) → (e = 10 ∧ 0 < n ∧ l = []) := fun {l n e} h => by
        injection h with h1 h2
        injection h2 with h2 h3
        subst h1; subst h2; subst h3
        exact ⟨rfl, by omega, rfl⟩
      split at h
      · rename_i hc
        have hlen := cut_len hc hs
        have hcb := cut_back hc
        cases hl : lineR (toB (Lib.cut s [10]).1) with
        | none => rw [hl] at h; exact .inr (bad h)
        | some d =>
          rw [hl] at h
          obtain ⟨g1, g2⟩ := lineR_back hl
          rcases getR_back (by omega) h with ⟨r1, r2, r3, r4, r5⟩ | hr
          · refine .inl ⟨r1, r2, ?_, fun hs2 ha => r4 (by omega) fun x hx => ?_, by rw [List.length_append] at r5; simp at r5; omega⟩
            · rw [r3, show putL (acc ++ [d]) = putL acc ++ lineL d by simp [putL], g1, toB_list]
              conv => rhs; rw [hcb]
              simp
            · rcases List.mem_append.1 hx with hx | hx
              · exact ha x hx
              · obtain rfl : x = d := by simpa using hx
                exact g2 (by rw [toB_size]; omega)
          · exact .inr hr
      · exact .inr (bad h)
end Go.Proofs.YtceobomlmdmicaaDoor.Scr
