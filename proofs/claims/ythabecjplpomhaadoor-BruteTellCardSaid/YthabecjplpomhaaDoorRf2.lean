/- Layer 33's reference: the cells of a store in a slice. No condition. -/
import Derived.Test.YthabecjplpomhaaDoorRf1
namespace Go.Proofs.YthabecjplpomhaaDoor.Br
open Go Go.Proofs.YthabecjplpomhaaDoor.Vg Go.Proofs.YthabecjplpomhaaDoor.T Go.Proofs.YthabecjplpomhaaDoor.Api Go.Proofs.YthabecjplpomhaaDoor.Kv Go.Proofs.YthabecjplpomhaaDoor.LibC
set_option linter.unusedSimpArgs false
set_option linter.unusedVariables false
attribute [local irreducible] VO VC VA

abbrev Cell : Type := ByteArray × (ByteArray × Int)
def cC (x : Cell) : List Value := [.string x.1, .string x.2.1, .int .i64 x.2.2]
theorem cC_len (x : Cell) : (cC x).length = 3 := rfl
theorem cC_one (x : Cell) : (cC x).all Value.oneCell' = true := rfl
abbrev ClIn (Fr : Nat → Prop) (w : World) (a : Option Addr) (C : KvM) : Prop := RwIn cC 3 Fr w a C
theorem mGet_first {k : ByteArray} : ∀ {C : KvM} {i : Nat} {x : Cell}, (∀ y ∈ C.take i, y.1 ≠ k) → C[i]? = some x → x.1 = k → mGet C k = some x.2
  | [], i, x, _, h, _ => by cases h
  | (k', v) :: C, 0, x, _, h, hk => by
    obtain rfl : (k', v) = x := Option.some.inj h
    rw [mGet, if_pos hk]
  | (k', v) :: C, i + 1, x, ha, h, hk => by
    rw [mGet, if_neg (ha (k', v) (by simp))]
    exact mGet_first (i := i) (fun y hy => ha y (by simp [hy])) (by simpa using h) hk
def wout (C : KvM) (k : ByteArray) : KvM := C.filter fun x => !decide (x.1 = k)
theorem wout_len (C : KvM) (k : ByteArray) : (wout C k).length ≤ C.length := List.length_filter_le _ _
theorem wout_ne {C : KvM} {k : ByteArray} : ∀ x ∈ wout C k, x.1 ≠ k := fun x hx => by simpa using (List.mem_filter.1 hx).2
theorem wout_get (C : KvM) (k : ByteArray) : mGet (wout C k) = putF (mGet C) k none := by
  funext b
  induction C with
  | nil => simp [wout, mGet, putF]
  | cons x C ih =>
    obtain ⟨k', v⟩ := x
    have e : wout ((k', v) :: C) k = if k' = k then wout C k else (k', v) :: wout C k := by
      unfold wout; rw [List.filter_cons]; by_cases h : k' = k <;> simp [h]
    rw [e]
    unfold putF at ih ⊢
    by_cases h : k' = k
    · subst h
      rw [if_pos rfl, ih]
      by_cases hb : k' = b
      · simp [hb]
      · simp [hb, mGet]
    · rw [if_neg h, mGet, mGet]
      by_cases hb : k' = b
      · subst hb; simp [Ne.symm h]
      · rw [if_neg hb, if_neg hb]; exact ih
theorem ins_get {D : KvM} {x : Cell} (hD : ∀ y ∈ D, y.1 ≠ x.1) : ∀ i, mGet (D.take i ++ x :: D.drop i) = putF (mGet D) x.1 (some x.2) := fun i => by
  funext b
  obtain ⟨k, v⟩ := x
  unfold putF
  induction D generalizing i with
  | nil => simp [mGet]
  | cons y D ih =>
    obtain ⟨k', v'⟩ := y
    have hk : k' ≠ k := hD _ (List.mem_cons_self ..)
    cases i with
    | zero => simp [mGet]
    | succ i =>
      have := ih i (fun y hy => hD y (List.mem_cons_of_mem _ hy))
      simp only [List.take_succ_cons, List.drop_succ_cons, List.cons_append, mGet, this]
      by_cases hb : k' = b
      · subst hb; simp [Ne.symm hk]
      · simp [hb]

set_option maxRecDepth 100000 in
theorem rlook_spec (Fr : Nat → Prop) (w : World) {a : Option Addr} {cap : Nat} {C : KvM} (h : ClIn Fr w a C) (hl : C.length ≤ 1000) (k : ByteArray) (n : Int) :
    Tri Tryd.prog 18 [.slice a C.length cap, .string k, .int .i64 n] Fr w [] (fun v L => v = .agg (resC (kvLook C k n)).toArray ∧ L = []) := by
  refine Tri.of 35 Tryd.func18 rfl (by kernel_rfl) tabOk rfl rfl ?_
  refine VC.seq (VC.region (VO.go (VO.alloc rfl fun rb => VO.go (VO.nil ?_))))
  (repeat (first | refine VC.seq ?_ | refine VC.region ?_ | refine VC.block ?_ | refine VC.label ?_ | refine VC.scope ?_ | refine VO.go (VO.nil ?_) | refine VO.go (VO.ld 0 rfl rfl rfl rfl ?_)))
  refine VC.loop (σ := Nat) (fun j => [(0, .slice a C.length cap), (1, .string k), (2, .int .i64 n), (6, .pointer (some ⟨rb, 0, none⟩)), (7, .int .i64 j)]) (fun _ => [pt rb (resC resZ) 29]) (fun j => j ≤ C.length ∧ ∀ x ∈ C.take j, x.1 ≠ k) (fun j => C.length - j) 0
    ⟨Nat.zero_le _, by simp⟩ (Sub.cons rfl (Sub.cons rfl (Sub.cons rfl (Sub.cons rfl (Sub.cons rfl (Sub.nil _)))))) Ent.refl ?_
  rintro j ⟨hj, hall⟩
  (repeat (first | refine VC.seq ?_ | refine VC.region ?_ | refine VC.block ?_ | refine VC.label ?_ | refine VC.scope ?_ | refine VO.go (VO.nil ?_) | refine VO.go (VO.ld 0 rfl rfl rfl rfl ?_)))
  refine VC.condP rfl (fun h2 => VC.skip ?_) (fun h2 => VC.exit ?_)
  · have hj2 : j < C.length := by omega
    obtain ⟨x, hx⟩ : ∃ x, C[j]? = some x := ⟨_, List.getElem?_eq_getElem hj2⟩
    obtain ⟨fb, fo, rfl, ra, rc, rs⟩ := RwIn.rd3 (X := ⟨Tryd.prog, tab, tabOk, 35, Fr, w⟩) h hx
    (repeat (first | refine VC.seq ?_ | refine VC.region ?_ | refine VC.block ?_ | refine VC.label ?_ | refine VC.scope ?_ | refine VO.go (VO.nil ?_) | refine VO.go (VO.ld 0 rfl rfl rfl rfl ?_)))
    refine VO.go (VO.light (light_idx j rfl rfl rfl rfl rfl rfl hj2) ?_)
    (repeat (first | refine VC.seq ?_ | refine VC.region ?_ | refine VC.block ?_ | refine VC.label ?_ | refine VC.scope ?_ | refine VO.go (VO.nil ?_) | refine VO.go (VO.ld 0 rfl rfl rfl rfl ?_)))
    refine VO.go (VO.load rfl rfl (rc _ _ 0 _ rfl rfl) ?_)
    (repeat (first | refine VC.seq ?_ | refine VC.region ?_ | refine VC.block ?_ | refine VC.label ?_ | refine VC.scope ?_ | refine VO.go (VO.nil ?_) | refine VO.go (VO.ld 0 rfl rfl rfl rfl ?_)))
    refine VC.cond rfl (fun h3 => ?_) (fun h3 => VC.skip ?_)
    · have h3 : x.1 = k := by rw [strEq] at h3; exact of_decide_eq_true h3
      refine VC.seq (VC.draw (ts 0 12 (.only 12 .nil)) (by kernel_rfl) (by decide +kernel) ?_)
      (repeat (first | refine VA.go (VA.nil ?_) | refine VA.go (VA.ld 0 rfl rfl rfl rfl rfl ?_)))
      refine VA.go (VA.light rfl (light_idx j rfl rfl rfl rfl rfl rfl hj2) ?_)
      (repeat (first | refine VA.go (VA.nil ?_) | refine VA.go (VA.ld 0 rfl rfl rfl rfl rfl ?_)))
      refine VA.go (VA.load rfl rfl rfl (rc _ _ 1 _ rfl rfl) ?_)
      (repeat (first | refine VA.go (VA.nil ?_) | refine VA.go (VA.ld 0 rfl rfl rfl rfl rfl ?_)))
      refine VA.go (VA.light rfl (light_idx j rfl rfl rfl rfl rfl rfl hj2) ?_)
      (repeat (first | refine VA.go (VA.nil ?_) | refine VA.go (VA.ld 0 rfl rfl rfl rfl rfl ?_)))
      refine VA.go (VA.load rfl rfl rfl (rc _ _ 2 _ rfl rfl) ?_)
      (repeat (first | refine VA.go (VA.nil ?_) | refine VA.go (VA.ld 0 rfl rfl rfl rfl rfl ?_)))
      refine VA.go (VA.light rfl (light_build (pv := [(0, .int .i64 1), (1, .string x.2.1), (2, .int .i64 x.2.2), (3, .int .i64 n)]) (resC ⟨1, x.2.1, x.2.2, n⟩) rfl rfl rfl (by kernel_rfl) rfl) ?_)
      refine VA.go (VA.stA (vs := resC ⟨1, x.2.1, x.2.2, n⟩) 0 rfl rfl rfl rfl rfl (Nat.le_refl _) rfl rfl rfl (by (try refine Pd.st ?_); (repeat (first | exact Pd.nil | exact Pd.fnil | refine Pd.inner ?_ | refine Pd.skip (by decide +kernel) ?_ | refine Pd.fcons (RdL.blk (rc _ _ 1 _ rfl rfl) rfl) ?_ | refine Pd.fcons (RdL.blk (rc _ _ 2 _ rfl rfl) rfl) ?_ | refine Pd.fcons ((rc _ _ 1 _ rfl rfl)) ?_ | refine Pd.fcons ((rc _ _ 2 _ rfl rfl)) ?_ | refine Pd.cons (RdL.blk (rc _ _ 1 _ rfl rfl) rfl) ?_ | refine Pd.cons (RdL.blk (rc _ _ 2 _ rfl rfl) rfl) ?_ | refine Pd.cons ((rc _ _ 1 _ rfl rfl)) ?_ | refine Pd.cons ((rc _ _ 2 _ rfl rfl)) ?_ | refine Pd.fconsM ((rc _ _ 1 _ rfl rfl)) ?_ | refine Pd.fconsM ((rc _ _ 2 _ rfl rfl)) ?_ | refine Pd.consM ((rc _ _ 1 _ rfl rfl)) ?_ | refine Pd.consM ((rc _ _ 2 _ rfl rfl)) ?_))) ?_)
      (repeat (first | refine VA.go (VA.nil ?_) | refine VA.go (VA.ld 0 rfl rfl rfl rfl rfl ?_)))
      exact VC.ret (Ret.cell 6 rfl rfl rfl (RdL.many (ds := resC ⟨1, x.2.1, x.2.2, n⟩) 0 rfl rfl) Imp.nil.ent ⟨by rw [kvLook, mGet_first hall hx h3], rfl⟩)
    · have h3 : x.1 ≠ k := by rw [strEq] at h3; exact of_decide_eq_false h3
      (repeat (first | refine VC.seq ?_ | refine VC.region ?_ | refine VC.block ?_ | refine VC.label ?_ | refine VC.scope ?_ | refine VO.go (VO.nil ?_) | refine VO.go (VO.ld 0 rfl rfl rfl rfl ?_)))
      refine VO.go (VO.add rfl rfl (by omega) (by omega) ?_)
      (repeat (first | refine VC.seq ?_ | refine VC.region ?_ | refine VC.block ?_ | refine VC.label ?_ | refine VC.scope ?_ | refine VO.go (VO.nil ?_) | refine VO.go (VO.ld 0 rfl rfl rfl rfl ?_)))
      refine ⟨j + 1, ⟨hj2, fun y hy => ?_⟩, by dsimp only; omega, Sub.cons rfl (Sub.cons rfl (Sub.cons rfl (Sub.cons rfl (Sub.cons rfl (Sub.nil _))))), Ent.refl⟩
      rw [List.take_add_one, hx] at hy
      rcases List.mem_append.1 hy with hy | hy
      · exact hall y hy
      · simp at hy; rw [hy]; exact h3
  · obtain rfl : j = C.length := by omega
    rw [List.take_length] at hall
    (repeat (first | refine VC.seq ?_ | refine VC.region ?_ | refine VC.block ?_ | refine VC.label ?_ | refine VC.scope ?_ | refine VO.go (VO.nil ?_) | refine VO.go (VO.ld 0 rfl rfl rfl rfl ?_)))
    refine VO.go (VO.light (light_build (pv := [(0, .int .i64 2), (3, .int .i64 n)]) (resC ⟨2, nilB, 0, n⟩) rfl rfl rfl (by kernel_rfl) rfl) ?_)
    refine VO.go (VO.stA (vs := resC ⟨2, nilB, 0, n⟩) 0 rfl rfl rfl rfl (Nat.le_refl _) rfl rfl rfl ?_)
    (repeat (first | refine VC.seq ?_ | refine VC.region ?_ | refine VC.block ?_ | refine VC.label ?_ | refine VC.scope ?_ | refine VO.go (VO.nil ?_) | refine VO.go (VO.ld 0 rfl rfl rfl rfl ?_)))
    exact VC.ret (Ret.cell 6 rfl rfl rfl (RdL.many (ds := resC ⟨2, nilB, 0, n⟩) 0 rfl rfl) Imp.nil.ent ⟨by rw [kvLook, (mGet_none_iff C k).2 hall], rfl⟩)

set_option maxRecDepth 100000 in
theorem without_spec (Fr : Nat → Prop) (w : World) {a : Option Addr} {cap : Nat} {C : KvM} (h : ClIn Fr w a C) (hl : C.length ≤ 1000) (k : ByteArray) :
    Tri Tryd.prog 30 [.slice a C.length cap, .string k] Fr w [] (fun v L => ∃ a' c', v = .slice a' (wout C k).length c' ∧ L = [slH 74 3 a' (wout C k).length c' (flat cC (wout C k))]) := by
  refine Tri.of 28 Tryd.func30 rfl (by kernel_rfl) tabOk rfl rfl ?_
  (repeat (first | refine VC.seq ?_ | refine VC.region ?_ | refine VC.block ?_ | refine VC.label ?_ | refine VC.scope ?_ | refine VO.go (VO.nil ?_) | refine VO.go (VO.ld 0 rfl rfl rfl rfl ?_)))
  refine VC.loop (σ := Nat × KvM × Option Addr × Nat) (fun x => [(0, .slice a C.length cap), (1, .string k), (5, .slice x.2.2.1 x.2.1.length x.2.2.2), (6, .int .i64 x.1)]) (fun x => [slH 74 3 x.2.2.1 x.2.1.length x.2.2.2 (flat cC x.2.1)]) (fun x => x.1 ≤ C.length ∧ x.2.1 = wout (C.take x.1) k) (fun x => C.length - x.1) (0, [], none, 0)
    ⟨Nat.zero_le _, rfl⟩ (Sub.cons rfl (Sub.cons rfl (Sub.cons rfl (Sub.cons rfl (Sub.nil _))))) (Imp.slNil Imp.nil).ent ?_
  rintro ⟨j, D, a1, c1⟩ ⟨hj, hD⟩
  dsimp only at hj hD ⊢
  (repeat (first | refine VC.seq ?_ | refine VC.region ?_ | refine VC.block ?_ | refine VC.label ?_ | refine VC.scope ?_ | refine VO.go (VO.nil ?_) | refine VO.go (VO.ld 0 rfl rfl rfl rfl ?_)))
  refine VC.condP rfl (fun h2 => VC.skip ?_) (fun h2 => VC.exit ?_)
  · have hj2 : j < C.length := by omega
    obtain ⟨x, hx⟩ : ∃ x, C[j]? = some x := ⟨_, List.getElem?_eq_getElem hj2⟩
    have hDl : D.length ≤ 1000 := by have := wout_len (C.take j) k; rw [hD]; rw [List.length_take] at this; omega
    have htk : wout (C.take (j + 1)) k = D ++ if x.1 = k then [] else [x] := by
      rw [List.take_add_one, hx]; unfold wout at hD ⊢
      rw [List.filter_append, ← hD]; by_cases hk : x.1 = k <;> simp [hk]
    obtain ⟨fb, fo, rfl, ra, rc, rs⟩ := RwIn.rd3 (X := ⟨Tryd.prog, tab, tabOk, 28, Fr, w⟩) h hx
    (repeat (first | refine VC.seq ?_ | refine VC.region ?_ | refine VC.block ?_ | refine VC.label ?_ | refine VC.scope ?_ | refine VO.go (VO.nil ?_) | refine VO.go (VO.ld 0 rfl rfl rfl rfl ?_)))
    refine VO.go (VO.light (light_idx j rfl rfl rfl rfl rfl rfl hj2) ?_)
    (repeat (first | refine VC.seq ?_ | refine VC.region ?_ | refine VC.block ?_ | refine VC.label ?_ | refine VC.scope ?_ | refine VO.go (VO.nil ?_) | refine VO.go (VO.ld 0 rfl rfl rfl rfl ?_)))
    refine VO.go (VO.load rfl rfl (rc _ _ 0 _ rfl rfl) ?_)
    (repeat (first | refine VC.seq ?_ | refine VC.region ?_ | refine VC.block ?_ | refine VC.label ?_ | refine VC.scope ?_ | refine VO.go (VO.nil ?_) | refine VO.go (VO.ld 0 rfl rfl rfl rfl ?_)))
    refine VC.cond rfl (fun h3 => ?_) (fun h3 => VC.skip ?_)
    · have h3 : x.1 ≠ k := by rw [strEq] at h3; simpa using h3
      (repeat (first | refine VC.seq ?_ | refine VC.region ?_ | refine VC.block ?_ | refine VC.label ?_ | refine VC.scope ?_ | refine VO.go (VO.nil ?_) | refine VO.go (VO.ld 0 rfl rfl rfl rfl ?_)))
      refine VO.go (VO.light (light_idx j rfl rfl rfl rfl rfl rfl hj2) ?_)
      refine VO.go (VO.load rfl rfl (ra _ _ rfl rfl) ?_)
      refine VO.go (VO.buildSlice (n := 1) (pv := [(0, .agg (cC x).toArray)]) (cC x) rfl rfl rfl rfl (by decide) (fill_one rfl rfl rfl) fun nb => ?_)
      refine VO.go (VO.append (m := 1) (news := cC x) 1 rfl rfl rfl rfl rfl rfl rfl (RdRow.pt 0 rfl rfl rfl) rfl (by show (D.length + 1) * 40 ≤ _; omega) (by omega) fun a2 c2 hc2 => ?_)
      (repeat (first | refine VC.seq ?_ | refine VC.region ?_ | refine VC.block ?_ | refine VC.label ?_ | refine VC.scope ?_ | refine VO.go (VO.nil ?_) | refine VO.go (VO.ld 0 rfl rfl rfl rfl ?_)))
      refine VO.go (VO.add rfl rfl (by omega) (by omega) ?_)
      (repeat (first | refine VC.seq ?_ | refine VC.region ?_ | refine VC.block ?_ | refine VC.label ?_ | refine VC.scope ?_ | refine VO.go (VO.nil ?_) | refine VO.go (VO.ld 0 rfl rfl rfl rfl ?_)))
      have hL : (D ++ [x]).length = D.length + 1 := by simp
      refine ⟨(j + 1, D ++ [x], a2, c2), ⟨hj2, by dsimp only; rw [htk, if_neg h3]⟩, by dsimp only; omega, Sub.cons rfl (Sub.cons rfl (Sub.cons (by rw [hL]; rfl) (Sub.cons rfl (Sub.nil _)))), ?_⟩
      have e : flat cC (D ++ [x]) = flat cC D ++ cC x := by simp [flat_append, flat_cons, flat_nil]
      dsimp only
      rw [e, hL]
      exact (Imp.pick 0 rfl Imp.nil).ent
    · have h3 : x.1 = k := by rw [strEq] at h3; simpa using h3
      (repeat (first | refine VC.seq ?_ | refine VC.region ?_ | refine VC.block ?_ | refine VC.label ?_ | refine VC.scope ?_ | refine VO.go (VO.nil ?_) | refine VO.go (VO.ld 0 rfl rfl rfl rfl ?_)))
      refine VO.go (VO.add rfl rfl (by omega) (by omega) ?_)
      (repeat (first | refine VC.seq ?_ | refine VC.region ?_ | refine VC.block ?_ | refine VC.label ?_ | refine VC.scope ?_ | refine VO.go (VO.nil ?_) | refine VO.go (VO.ld 0 rfl rfl rfl rfl ?_)))
      exact ⟨(j + 1, D, a1, c1), ⟨hj2, by dsimp only; rw [htk, if_pos h3, List.append_nil]⟩, by dsimp only; omega, Sub.cons rfl (Sub.cons rfl (Sub.cons rfl (Sub.cons rfl (Sub.nil _)))), Ent.refl⟩
  · obtain rfl : j = C.length := by omega
    rw [List.take_length] at hD
    subst hD
    (repeat (first | refine VC.seq ?_ | refine VC.region ?_ | refine VC.block ?_ | refine VC.label ?_ | refine VC.scope ?_ | refine VO.go (VO.nil ?_) | refine VO.go (VO.ld 0 rfl rfl rfl rfl ?_)))
    exact VC.ret (Ret.tmp 4 rfl rfl Ent.refl ⟨a1, c1, rfl, rfl⟩)
end Go.Proofs.YthabecjplpomhaaDoor.Br
