/- Layer 24, plain: a step's line is read as it, with what its kind uses. No program. No condition. -/
import Derived.Test.YtceobomlmdmicaaDoorScB
namespace Go.Proofs.YtceobomlmdmicaaDoor.Scr
open Go Go.Proofs.YtceobomlmdmicaaDoor.Vg Go.Proofs.YtceobomlmdmicaaDoor.T Go.Proofs.YtceobomlmdmicaaDoor.Api Go.Proofs.YtceobomlmdmicaaDoor.LibC
set_option linter.unusedSimpArgs false
set_option linter.unusedVariables false

def sOp (x : DoM) (o : OpM) : DoM := { x with op := o }
def setU (d x : DoM) (c : UInt8) : DoM := if c = 97 then sA x d.a else if c = 98 then sB x d.b else if c = 99 then sCc x d.c else sOp x d.op
def normD (d : DoM) : DoM := (usesK d.kind.toNat).foldl (setU d) { doZ with kind := d.kind }
def argU (d : DoM) (c : UInt8) : List ByteArray := if c = 97 then [numT d.a] else if c = 98 then [numT d.b] else if c = 99 then [numT d.c] else [numT d.op.kind, numT d.op.version, encT d.op.key, encT d.op.value]
def argsW (d : DoM) : List ByteArray := (usesK d.kind.toNat).flatMap (argU d)
theorem args_rest (d : DoM) : (argsW d).flatMap (fun w => 32 :: w.data.toList) = restL d := by
  unfold argsW restL
  rw [List.flatMap_assoc]
  congr 1
  funext c
  unfold argU useT
  split
  · simp [numL, numT]
  split
  · simp [numL, numT]
  split
  · simp [numL, numT]
  · simp [numL, numT, enc_data]
theorem num_blank {c : UInt8} (hc : c = 32 ∨ c = 10) (n : Int) : c ∉ (numT n).data.toList := fun h => by
  have hd : (numT n).data.toList = Lib.itoa n := by simp [numT]
  rw [hd] at h
  have key : ∀ u, c ∉ Lib.decDigits u := fun u hu => by
    have := digits_range u c hu
    rcases hc with rfl | rfl <;> simp at this
  unfold Lib.itoa at h
  split at h
  · rcases List.mem_cons.1 h with h | h
    · rcases hc with rfl | rfl <;> cases h
    · exact key _ h
  · exact key _ h
theorem dig_ne : ∀ n, n < 16 → dig n ≠ 32 ∧ dig n ≠ 10 := by decide +kernel
theorem enc_blank {c : UInt8} (hc : c = 32 ∨ c = 10) (t : ByteArray) : c ∉ (encT t).data.toList := fun h => by
  rw [enc_data] at h
  rcases List.mem_cons.1 h with h | h
  · rcases hc with rfl | rfl <;> cases h
  · obtain ⟨b, _, hb⟩ := List.mem_flatMap.1 h
    have h256 := b.toNat_lt
    have d1 := dig_ne (b.toNat / 16) (by omega)
    have d2 := dig_ne (b.toNat % 16) (by omega)
    simp only [List.mem_cons, List.not_mem_nil, or_false] at hb
    rcases hc with rfl | rfl <;> rcases hb with hb | hb
    · exact d1.1 hb.symm
    · exact d2.1 hb.symm
    · exact d1.2 hb.symm
    · exact d2.2 hb.symm
theorem args_blank {c : UInt8} (hc : c = 32 ∨ c = 10) (d : DoM) : ∀ w ∈ argsW d, c ∉ w.data.toList := fun w hw => by
  obtain ⟨u, _, hu⟩ := List.mem_flatMap.1 hw
  unfold argU at hu
  split at hu
  · simp only [List.mem_singleton] at hu; subst hu; exact num_blank hc _
  split at hu
  · simp only [List.mem_singleton] at hu; subst hu; exact num_blank hc _
  split at hu
  · simp only [List.mem_singleton] at hu; subst hu; exact num_blank hc _
  · simp only [List.mem_cons, List.not_mem_nil, or_false] at hu
    rcases hu with rfl | rfl | rfl | rfl
    · exact num_blank hc _
    · exact num_blank hc _
    · exact enc_blank hc _
    · exact enc_blank hc _
theorem word_blank : ∀ k, k < 12 → (32 : UInt8) ∉ wordK k ∧ (10 : UInt8) ∉ wordK k := by decide +kernel
theorem kindTo_word : ∀ k, k < 12 → 1 ≤ k → kindTo (toB (wordK k)) 11 = k := by decide +kernel
theorem takeN_fwd {f : DoM → Int → DoM} {d : DoM} {n : Int} {r : List ByteArray} (h : isI n) : takeN f (d, numT n :: r, false) = (f d n, r, false) := by
  unfold takeN
  simp only [List.headD_cons, List.tail_cons, numR_num h]
  rfl
theorem takeS_fwd {f : DoM → ByteArray → DoM} {d : DoM} {t : ByteArray} {r : List ByteArray} : takeS f (d, encT t :: r, false) = (f d t, r, false) := by
  unfold takeS
  simp only [List.headD_cons, List.tail_cons, decT_enc]
  rfl
theorem useR_fwd {d x : DoM} (h : d.Ok) (c : UInt8) (r : List ByteArray) : useR (x, argU d c ++ r, false) c = (setU d x c, r, false) := by
  unfold useR argU setU
  split
  · exact takeN_fwd h.a
  split
  · exact takeN_fwd h.b
  split
  · exact takeN_fwd h.c
  · show takeS sVal (takeS sKey (takeN sOv (takeN sOk (x, numT d.op.kind :: numT d.op.version :: encT d.op.key :: encT d.op.value :: r, false)))) = _
    rw [takeN_fwd h.opk, takeN_fwd h.opv, takeS_fwd, takeS_fwd]
    rfl
theorem fold_fwd {d : DoM} (h : d.Ok) : ∀ (U : List UInt8) (x : DoM), U.foldl useR (x, U.flatMap (argU d), false) = (U.foldl (setU d) x, [], false)
  | [], x => rfl
  | c :: U, x => by
    rw [List.flatMap_cons, List.foldl_cons, useR_fwd h, fold_fwd h U]; rfl
theorem lineR_fwd {d : DoM} (h : d.Ok) (hk : isK d.kind = true) : lineR (toB (wordK d.kind.toNat ++ restL d)) = some (normD d) := by
  obtain ⟨k, hk0, hk1, hk2⟩ := isK_nat hk
  have hkn : d.kind.toNat = k := by rw [hk0]; rfl
  have hs : splitW (toB (wordK k ++ restL d)) = toB (wordK k) :: argsW d := by
    have := splitW_words (w0 := toB (wordK k)) (ws := argsW d) (by rw [toB_list]; exact (word_blank k (by omega)).1) (args_blank (.inl rfl) d)
    rw [toB_list, args_rest] at this
    exact this
  rw [hkn]
  unfold lineR
  rw [hs]
  show (if kindTo (toB (wordK k)) 11 = 0 then none else if ((usesK (kindTo (toB (wordK k)) 11)).foldl useR (({ doZ with kind := (kindTo (toB (wordK k)) 11 : Nat) } : DoM), argsW d, false)).2.2 || !((usesK (kindTo (toB (wordK k)) 11)).foldl useR (({ doZ with kind := (kindTo (toB (wordK k)) 11 : Nat) } : DoM), argsW d, false)).2.1.isEmpty then none else some ((usesK (kindTo (toB (wordK k)) 11)).foldl useR (({ doZ with kind := (kindTo (toB (wordK k)) 11 : Nat) } : DoM), argsW d, false)).1) = _
  rw [kindTo_word k (by omega) hk1, if_neg (by omega)]
  unfold argsW normD
  rw [hkn, fold_fwd h, hk0]
  rfl
theorem cut_first {w r : List UInt8} (h : (10 : UInt8) ∉ w) : Lib.cut (w ++ 10 :: r) [10] = (w, r, true) := by
  unfold Lib.cut
  rw [index_first h, if_pos (by omega)]
  simp only [Int.toNat_natCast, List.length_cons, List.length_nil, Nat.zero_add]
  rw [List.take_left, ← List.drop_drop, List.drop_left]
  rfl
theorem line_noend {d : DoM} (hk : isK d.kind = true) : (10 : UInt8) ∉ wordK d.kind.toNat ++ restL d := fun h => by
  obtain ⟨k, hk0, hk1, hk2⟩ := isK_nat hk
  have hkn : d.kind.toNat = k := by rw [hk0]; rfl
  rcases List.mem_append.1 h with h | h
  · rw [hkn] at h; exact (word_blank k (by omega)).2 h
  · rw [← args_rest] at h
    obtain ⟨w, hw, hh⟩ := List.mem_flatMap.1 h
    rcases List.mem_cons.1 hh with hh | hh
    · cases hh
    · exact args_blank (.inr rfl) d w hw hh
/-- Those of a text's steps that are of a kind, with what it uses. -/
def readM (l : List DoM) : List DoM := (l.filter fun d => isK d.kind).map normD
theorem getR_put : ∀ {l : List DoM} {f : Nat} {acc : List DoM}, (∀ d ∈ l, d.Ok) → (putL l).length < f → getR f (putL l) acc = (acc ++ readM l, 0, 0)
  | [], f, acc, _, hf => by
    obtain ⟨f, rfl⟩ : ∃ k, f = k + 1 := ⟨f - 1, by omega⟩
    rw [getR, if_pos (show putL [] = [] from rfl)]; simp [readM]
  | d :: l, f, acc, hok, hf => by
    have hok2 : ∀ d ∈ l, d.Ok := fun d hd => hok d (by simp [hd])
    have e : putL (d :: l) = lineL d ++ putL l := rfl
    cases hk : isK d.kind with
    | false =>
      have e0 : lineL d = [] := by unfold lineL; rw [hk]; rfl
      rw [e, e0, List.nil_append] at hf ⊢
      rw [getR_put hok2 hf]
      simp [readM, hk]
    | true =>
      have e1 : lineL d ++ putL l = (wordK d.kind.toNat ++ restL d) ++ 10 :: putL l := by unfold lineL; rw [hk]; simp
      obtain ⟨f, rfl⟩ : ∃ k, f = k + 1 := ⟨f - 1, by omega⟩
      rw [e, e1] at hf ⊢
      rw [getR, if_neg (by simp), cut_first (line_noend hk)]
      simp only [if_true]
      rw [lineR_fwd (hok d (by simp)) hk]
      simp only
      rw [getR_put hok2 (by simp only [List.length_append, List.length_cons] at hf; omega)]
      simp [readM, hk]
theorem get_put {l : List DoM} (hok : ∀ d ∈ l, d.Ok) : getM (toB (putL l)) = (readM l, 0, 0) := by
  unfold getM
  rw [toB_list, toB_size, getR_put hok (by omega)]; rfl
theorem normD_kind (d : DoM) : (normD d).kind = d.kind := by
  have : ∀ (U : List UInt8) (x : DoM), (U.foldl (setU d) x).kind = x.kind := by
    intro U
    induction U with
    | nil => intro x; rfl
    | cons c U ih =>
      intro x
      rw [List.foldl_cons, ih]
      unfold setU
      split
      · rfl
      split
      · rfl
      split
      · rfl
      · rfl
  exact this _ _
end Go.Proofs.YtceobomlmdmicaaDoor.Scr
