/- Layer 33's reference: an order is looked for. No condition. -/
import Derived.Test.YthabecjplpomhaaDoorRf4
namespace Go.Proofs.YthabecjplpomhaaDoor.Br
open Go Go.Proofs.YthabecjplpomhaaDoor.Vg Go.Proofs.YthabecjplpomhaaDoor.T Go.Proofs.YthabecjplpomhaaDoor.Api Go.Proofs.YthabecjplpomhaaDoor.Kv Go.Proofs.YthabecjplpomhaaDoor.LibC
set_option linter.unusedSimpArgs false
set_option linter.unusedVariables false
attribute [local irreducible] VO VC VA

abbrev stH (a : Option Addr) (c : Nat) (st : List Nat) : HP := slH 3 1 a st.length c (flat iC (stR st))
theorem st_in {Fr : Nat → Prop} {w : World} {a : Option Addr} {c : Nat} {st : List Nat} (h : SatIn Fr [stH a c st] w) : StIn Fr w a st := RwIn.sl (cap := c) (fun _ => rfl) (by rw [stR_len]; exact h)
theorem HOpn.stO (a : Option Addr) (c : Nat) (st : List Nat) : HOpn (ι := RL Int) (stH a c st) (fun r => r.Ok iC 1 ∧ r.addr = a ∧ r.cap = c ∧ r.xs = stR st) (fun r => [r.h 3]) := by
  intro w ids h hn
  obtain ⟨r, ⟨h1, h2, h3⟩, h4⟩ := HOpn.rl (c := iC) (n := 1) 3 a c (stR st) (fun _ => rfl) w ids (by rw [stR_len]; exact h) hn
  have h2 : Value.slice r.addr r.xs.length r.cap = .slice a (stR st).length c := h2
  injection h2 with e1 e2 e3
  exact ⟨r, ⟨h1, e1, e3, h3⟩, h4⟩
/-- The cells, where they are new. -/
def clH (f : Bool) (a : Option Addr) (c : Nat) (C : KvM) : HP := match f with
  | true => slH 74 3 a C.length c (flat cC C)
  | false => hpure True
theorem cl_in {Fr' : Nat → Prop} {w' : World} {a : Option Addr} {c : Nat} {C : KvM} : ∀ {f : Bool}, SatIn Fr' [clH f a c C] w' → (f = false → ClIn Fr' w' a C) → ClIn Fr' w' a C
  | true, h, _ => RwIn.sl (cap := c) cC_len h
  | false, _, h => h rfl
/-- How many are left, as far as looked. -/
theorem left_snoc {l : List RecM} {st : List Nat} {j k : Nat} (hk : k = 0 ↔ ∀ i, i < j → (!(at_ l i).done || st.contains i) = true) (b : Bool) (hb : b = ((at_ l j).done && !st.contains j)) : ((if b then k + 1 else k) = 0 ↔ ∀ i, i < j + 1 → (!(at_ l i).done || st.contains i) = true) := by
  have hj : b = false ↔ (!(at_ l j).done || st.contains j) = true := by rw [hb]; cases (at_ l j).done <;> cases st.contains j <;> simp
  constructor
  · intro h i hi
    cases b with
    | true => simp at h
    | false =>
      rcases Nat.lt_or_ge i j with h2 | h2
      · exact hk.1 (by simpa using h) i h2
      · obtain rfl : i = j := by omega
        exact hj.1 rfl
  · intro h
    have : b = false := hj.2 (h j (by omega))
    rw [this]; simp only [Bool.false_eq_true, if_false]
    exact hk.2 fun i hi => h i (by omega)

set_option maxRecDepth 100000 in
set_option maxHeartbeats 2000000 in
theorem rorder_spec {l : List RecM} (hl : l.length ≤ 6) (hops : ∀ r ∈ l, opCheck r.op = 0) {a : Option Addr} {cap : Nat} : ∀ (m : Nat) (Fr : Nat → Prop) (w : World) {sa ca : Option Addr} {sc cc : Nat} {st : List Nat} {C : KvM} {n : Nat},
    RecsIn Fr w a l → ClIn Fr w ca C → C.length ≤ st.length → n ≤ st.length → st.Nodup → (∀ i ∈ st, i < l.length) → st.length + m = l.length →
    Tri Tryd.prog 11 [.slice a l.length cap, .slice sa st.length sc, .slice ca C.length cc, .int .i64 n] Fr w [stH sa sc st]
      (fun v L => (solve l m st (mGet C) n = none ∧ v = .tuple #[.slice none 0 0, .bool false] ∧ L = []) ∨ ∃ o a' c', solve l m st (mGet C) n = some o ∧ v = .tuple #[.slice a' o.length c', .bool true] ∧ L = [stH a' c' o]) := by
  intro m
  induction m using Nat.strongRecOn with
  | _ m ih =>
  intro Fr w sa ca sc cc st C n hR hK hCl hnl hnd hlt hm
  refine Tri.of 133 Tryd.func11 rfl (by kernel_rfl) tabOk rfl rfl ?_
  (repeat (first | refine VC.seq ?_ | refine VC.region ?_ | refine VC.block ?_ | refine VC.label ?_ | refine VC.scope ?_ | refine VO.go (VO.nil ?_) | refine VO.go (VO.ld 0 rfl rfl rfl rfl ?_)))
  refine VC.loop (σ := Nat × Nat) (fun x => [(0, .slice a l.length cap), (1, .slice sa st.length sc), (2, .slice ca C.length cc), (3, .int .i64 n), (10, .int .i64 x.2), (11, .int .i64 x.1)]) (fun _ => [stH sa sc st]) (fun x => x.1 ≤ l.length ∧ x.2 ≤ x.1 ∧ (x.2 = 0 ↔ ∀ i, i < x.1 → (!(at_ l i).done || st.contains i) = true)) (fun x => l.length - x.1) (0, 0)
    ⟨Nat.zero_le _, Nat.le_refl _, by simp⟩ (Sub.cons rfl (Sub.cons rfl (Sub.cons rfl (Sub.cons rfl (Sub.cons rfl (Sub.cons rfl (Sub.nil _))))))) Ent.refl ?_
  rintro ⟨j, k⟩ ⟨hj, hkj, hk⟩
  dsimp only at hj hkj hk ⊢
  (repeat (first | refine VC.seq ?_ | refine VC.region ?_ | refine VC.block ?_ | refine VC.label ?_ | refine VC.scope ?_ | refine VO.go (VO.nil ?_) | refine VO.go (VO.ld 0 rfl rfl rfl rfl ?_)))
  refine VC.condP rfl (fun h2 => VC.skip ?_) (fun h2 => VC.exit ?_)
  · have hj2 : j < l.length := by omega
    have hs := left_snoc hk _ rfl
    obtain ⟨fb, fo, rfl, ra, rc, rs⟩ := RwIn.rd3 (X := ⟨Tryd.prog, tab, tabOk, 133, Fr, w⟩) hR (at_get hj2)
    (repeat (first | refine VC.seq ?_ | refine VC.region ?_ | refine VC.block ?_ | refine VC.label ?_ | refine VC.scope ?_ | refine VO.go (VO.nil ?_) | refine VO.go (VO.ld 0 rfl rfl rfl rfl ?_)))
    refine VO.go (VO.light (light_idx j rfl rfl rfl rfl rfl rfl hj2) ?_)
    (repeat (first | refine VC.seq ?_ | refine VC.region ?_ | refine VC.block ?_ | refine VC.label ?_ | refine VC.scope ?_ | refine VO.go (VO.nil ?_) | refine VO.go (VO.ld 0 rfl rfl rfl rfl ?_)))
    refine VO.go (VO.load rfl rfl (rc _ _ 8 _ rfl rfl) ?_)
    (repeat (first | refine VC.seq ?_ | refine VC.region ?_ | refine VC.block ?_ | refine VC.label ?_ | refine VC.scope ?_ | refine VO.go (VO.nil ?_) | refine VO.go (VO.ld 0 rfl rfl rfl rfl ?_)))
    refine VO.go (VO.split 32 rfl rfl (fun h3 => ?_) (fun h3 => ?_))
    · (repeat (first | refine VC.seq ?_ | refine VC.region ?_ | refine VC.block ?_ | refine VC.label ?_ | refine VC.scope ?_ | refine VO.go (VO.nil ?_) | refine VO.go (VO.ld 0 rfl rfl rfl rfl ?_) | refine VO.go (VO.offU rfl rfl rfl ?_)))
      refine VO.go (VO.callV' (fun Fr w hF hw hS => has_spec Fr w (st_in (hS.at_ 0 rfl)) (by omega) j) rfl ?_)
      (repeat (first | refine VC.seq ?_ | refine VC.region ?_ | refine VC.block ?_ | refine VC.label ?_ | refine VC.scope ?_ | refine VO.go (VO.nil ?_) | refine VO.go (VO.ld 0 rfl rfl rfl rfl ?_) | refine VO.go (VO.offU rfl rfl rfl ?_)))
      refine VC.condN rfl (fun h4 => ?_) (fun h4 => VC.skip ?_)
      · rw [show (at_ l j).done = true from h3, h4] at hs
        (repeat (first | refine VC.seq ?_ | refine VC.region ?_ | refine VC.block ?_ | refine VC.label ?_ | refine VC.scope ?_ | refine VO.go (VO.nil ?_) | refine VO.go (VO.ld 0 rfl rfl rfl rfl ?_)))
        refine VO.go (VO.add rfl rfl (by omega) (by omega) ?_)
        (repeat (first | refine VC.seq ?_ | refine VC.region ?_ | refine VC.block ?_ | refine VC.label ?_ | refine VC.scope ?_ | refine VO.go (VO.nil ?_) | refine VO.go (VO.ld 0 rfl rfl rfl rfl ?_)))
        refine VO.go (VO.add rfl rfl (by omega) (by omega) ?_)
        (repeat (first | refine VC.seq ?_ | refine VC.region ?_ | refine VC.block ?_ | refine VC.label ?_ | refine VC.scope ?_ | refine VO.go (VO.nil ?_) | refine VO.go (VO.ld 0 rfl rfl rfl rfl ?_)))
        exact ⟨(j + 1, k + 1), ⟨hj2, by dsimp only; omega, hs⟩, by dsimp only; omega, Sub.cons rfl (Sub.cons rfl (Sub.cons rfl (Sub.cons rfl (Sub.cons rfl (Sub.cons rfl (Sub.nil _)))))), Ent.refl⟩
      · rw [h4] at hs
        rw [show ((at_ l j).done && !true) = false by simp] at hs
        (repeat (first | refine VC.seq ?_ | refine VC.region ?_ | refine VC.block ?_ | refine VC.label ?_ | refine VC.scope ?_ | refine VO.go (VO.nil ?_) | refine VO.go (VO.ld 0 rfl rfl rfl rfl ?_)))
        refine VO.go (VO.add rfl rfl (by omega) (by omega) ?_)
        (repeat (first | refine VC.seq ?_ | refine VC.region ?_ | refine VC.block ?_ | refine VC.label ?_ | refine VC.scope ?_ | refine VO.go (VO.nil ?_) | refine VO.go (VO.ld 0 rfl rfl rfl rfl ?_)))
        exact ⟨(j + 1, k), ⟨hj2, by dsimp only; omega, hs⟩, by dsimp only; omega, Sub.cons rfl (Sub.cons rfl (Sub.cons rfl (Sub.cons rfl (Sub.cons rfl (Sub.cons rfl (Sub.nil _)))))), Ent.refl⟩
    · rw [show (at_ l j).done = false from h3] at hs
      (repeat (first | refine VC.seq ?_ | refine VC.region ?_ | refine VC.block ?_ | refine VC.label ?_ | refine VC.scope ?_ | refine VO.go (VO.nil ?_) | refine VO.go (VO.ld 0 rfl rfl rfl rfl ?_) | refine VO.go (VO.offU rfl rfl rfl ?_)))
      refine VC.condF rfl (VC.skip ?_)
      (repeat (first | refine VC.seq ?_ | refine VC.region ?_ | refine VC.block ?_ | refine VC.label ?_ | refine VC.scope ?_ | refine VO.go (VO.nil ?_) | refine VO.go (VO.ld 0 rfl rfl rfl rfl ?_)))
      refine VO.go (VO.add rfl rfl (by omega) (by omega) ?_)
      (repeat (first | refine VC.seq ?_ | refine VC.region ?_ | refine VC.block ?_ | refine VC.label ?_ | refine VC.scope ?_ | refine VO.go (VO.nil ?_) | refine VO.go (VO.ld 0 rfl rfl rfl rfl ?_)))
      exact ⟨(j + 1, k), ⟨hj2, by dsimp only; omega, hs⟩, by dsimp only; omega, Sub.cons rfl (Sub.cons rfl (Sub.cons rfl (Sub.cons rfl (Sub.cons rfl (Sub.cons rfl (Sub.nil _)))))), Ent.refl⟩
  obtain rfl : j = l.length := by omega
  have hk : k = 0 ↔ allDone l st = true := hk.trans ⟨fun h => List.all_eq_true.2 fun i hi => h i (List.mem_range.1 hi), fun h i hi => List.all_eq_true.1 h i (List.mem_range.2 hi)⟩
  (repeat (first | refine VC.seq ?_ | refine VC.region ?_ | refine VC.block ?_ | refine VC.label ?_ | refine VC.scope ?_ | refine VO.go (VO.nil ?_) | refine VO.go (VO.ld 0 rfl rfl rfl rfl ?_)))
  refine VC.condE rfl (fun h1 => ?_) (fun h1 => VC.skip ?_)
  · have h1 := hk.1 (by omega)
    (repeat (first | refine VC.seq ?_ | refine VC.region ?_ | refine VC.block ?_ | refine VC.label ?_ | refine VC.scope ?_ | refine VO.go (VO.nil ?_) | refine VO.go (VO.ld 0 rfl rfl rfl rfl ?_)))
    exact VC.ret (Ret.tmp2 8 9 rfl rfl rfl Ent.refl (.inr ⟨st, sa, sc, solve_done h1 m _ _, rfl, rfl⟩))
  have h1 : allDone l st = false := by
    cases hh : allDone l st with
    | false => rfl
    | true => have := hk.2 hh; omega
  obtain ⟨m, rfl⟩ : ∃ k, m = k + 1 := by
    cases m with
    | zero => rw [full_done hnd hlt (by omega)] at h1; cases h1
    | succ k => exact ⟨k, rfl⟩
  rw [solve_succ l m st _ _ h1]
  refine VC.opn 0 rfl (HOpn.stO sa sc st) ?_
  rintro r ⟨hok, rfl, rfl, hx⟩
  have hrow : ∀ {L : List HP} (i : Nat), L[i]? = some (r.h 3) → RdRow ⟨Tryd.prog, tab, tabOk, 133, Fr, w⟩ L (.slice r.addr st.length r.cap) 1 st.length (flat iC (stR st)) := fun {L} i hL => by
    have := RL.rd (c := iC) (n := 1) (X := ⟨Tryd.prog, tab, tabOk, 133, Fr, w⟩) (t := 3) (L := L) (fun _ => rfl) hok i hL
    rw [hx, stR_len, RL.v, hx, stR_len] at this
    exact this
  have hst : ∀ {Fr : Nat → Prop} {w : World}, SatIn Fr [r.h 3] w → StIn Fr w r.addr st := fun {Fr w} h => by
    have := RwIn.rl h hok
    rw [hx] at this; exact this
  (repeat (first | refine VC.seq ?_ | refine VC.region ?_ | refine VC.block ?_ | refine VC.label ?_ | refine VC.scope ?_ | refine VO.go (VO.nil ?_) | refine VO.go (VO.ld 0 rfl rfl rfl rfl ?_)))
  refine VC.loop (σ := Nat) (fun i => [(0, .slice a l.length cap), (1, .slice r.addr st.length r.cap), (2, .slice ca C.length cc), (3, .int .i64 n), (12, .int .i64 i)]) (fun _ => [r.h 3]) (fun i => i ≤ l.length ∧ (List.range l.length).findSome? (way l m st (mGet C) n) = ((List.range l.length).drop i).findSome? (way l m st (mGet C) n)) (fun i => l.length - i) 0
    ⟨Nat.zero_le _, rfl⟩ (Sub.cons rfl (Sub.cons rfl (Sub.cons rfl (Sub.cons rfl (Sub.cons rfl (Sub.nil _)))))) Ent.refl ?_
  rintro i ⟨hi, hJ⟩
  generalize hW : (List.range l.length).findSome? (way l m st (mGet C) n) = W at hJ ⊢
  (repeat (first | refine VC.seq ?_ | refine VC.region ?_ | refine VC.block ?_ | refine VC.label ?_ | refine VC.scope ?_ | refine VO.go (VO.nil ?_) | refine VO.go (VO.ld 0 rfl rfl rfl rfl ?_)))
  refine VC.condP rfl (fun h2 => VC.skip ?_) (fun h2 => VC.exit ?_)
  · have hi2 : i < l.length := by omega
    rw [range_drop hi2, List.findSome?_cons] at hJ
    obtain ⟨fb, fo, rfl, ra, rc, rs⟩ := RwIn.rd3 (X := ⟨Tryd.prog, tab, tabOk, 133, Fr, w⟩) hR (at_get hi2)
    have hop : opCheck (at_ l i).op = 0 := hops _ (List.mem_of_getElem? (at_get hi2))
    refine VC.seq (VC.block (VC.seq (VC.seq (VC.region ?_))))
    (repeat (first | refine VC.seq ?_ | refine VC.region ?_ | refine VC.block ?_ | refine VC.label ?_ | refine VC.scope ?_ | refine VO.go (VO.nil ?_) | refine VO.go (VO.ld 0 rfl rfl rfl rfl ?_)))
    refine VO.go (VO.callV' (fun Fr w hF hw hS => next_spec Fr w (hR.of hF hw) (hst (hS.at_ 0 rfl)) (by omega) (by omega) i hi2) rfl ?_)
    (repeat (first | refine VC.seq ?_ | refine VC.region ?_ | refine VC.block ?_ | refine VC.label ?_ | refine VC.scope ?_ | refine VO.go (VO.nil ?_) | refine VO.go (VO.ld 0 rfl rfl rfl rfl ?_)))
    refine VC.condN rfl (fun h3 => VC.exit ?_) (fun h3 => VC.skip ?_)
    · have hno : way l m st (mGet C) n i = none := by unfold way; rw [h3]; rfl
      (repeat (first | refine VC.seq ?_ | refine VC.region ?_ | refine VC.block ?_ | refine VC.label ?_ | refine VC.scope ?_ | refine VO.go (VO.nil ?_) | refine VO.go (VO.ld 0 rfl rfl rfl rfl ?_)))
      refine VO.go (VO.add rfl rfl (by omega) (by omega) ?_)
      (repeat (first | refine VC.seq ?_ | refine VC.region ?_ | refine VC.block ?_ | refine VC.label ?_ | refine VC.scope ?_ | refine VO.go (VO.nil ?_) | refine VO.go (VO.ld 0 rfl rfl rfl rfl ?_)))
      refine ⟨i + 1, ⟨hi2, ?_⟩, by dsimp only; omega, Sub.cons rfl (Sub.cons rfl (Sub.cons rfl (Sub.cons rfl (Sub.cons rfl (Sub.nil _))))), Ent.refl⟩
      rw [hno] at hJ
      exact hJ
    obtain ⟨hni, _⟩ := may_of h3
    generalize hq : (stp (mGet C) n (at_ l i)).2.2 = q
    (repeat (first | refine VC.seq ?_ | refine VC.region ?_ | refine VC.block ?_ | refine VC.label ?_ | refine VC.scope ?_ | refine VO.go (VO.nil ?_) | refine VO.go (VO.ld 0 rfl rfl rfl rfl ?_)))
    refine VO.go (VO.light (light_idx i rfl rfl rfl rfl rfl rfl hi2) ?_)
    (repeat (first | refine VC.seq ?_ | refine VC.region ?_ | refine VC.block ?_ | refine VC.label ?_ | refine VC.scope ?_ | refine VO.go (VO.nil ?_) | refine VO.go (VO.ld 0 rfl rfl rfl rfl ?_)))
    refine VO.go (VO.load rfl rfl (rc _ _ 3 _ rfl rfl) ?_)
    (repeat (first | refine VC.seq ?_ | refine VC.region ?_ | refine VC.block ?_ | refine VC.label ?_ | refine VC.scope ?_ | refine VO.go (VO.nil ?_) | refine VO.go (VO.ld 0 rfl rfl rfl rfl ?_)))
    refine VO.go (VO.callV' (fun Fr w hF hw hS => rlook_spec Fr w (hK.of hF hw) (by omega) (at_ l i).op.key n) rfl ?_)
    refine VO.go (VO.alloc rfl fun qb => ?_)
    refine VO.go (VO.stA (vs := resC (kvLook C (at_ l i).op.key n)) 0 rfl rfl rfl rfl (Nat.le_refl _) rfl rfl rfl ?_)
    (repeat (first | refine VC.seq ?_ | refine VC.region ?_ | refine VC.block ?_ | refine VC.label ?_ | refine VC.scope ?_ | refine VO.go (VO.nil ?_) | refine VO.go (VO.ld 0 rfl rfl rfl rfl ?_)))
    refine VO.go (VO.light (light_idx i rfl rfl rfl rfl rfl rfl hi2) ?_)
    (repeat (first | refine VC.seq ?_ | refine VC.region ?_ | refine VC.block ?_ | refine VC.label ?_ | refine VC.scope ?_ | refine VO.go (VO.nil ?_) | refine VO.go (VO.ld 0 rfl rfl rfl rfl ?_)))
    refine VO.go (VO.load rfl rfl (rs _ _ 2 (at_ l i).op.cells rfl rfl rfl) ?_)
    refine VO.go (VO.callV (fun Fr w => rreads_spec Fr w (at_ l i).op) rfl ?_)
    (repeat (first | refine VC.seq ?_ | refine VC.region ?_ | refine VC.block ?_ | refine VC.label ?_ | refine VC.scope ?_ | refine VO.go (VO.nil ?_) | refine VO.go (VO.ld 0 rfl rfl rfl rfl ?_)))
    refine VC.meetS (σ := KvM × Option Addr × Nat × Bool × Nat) (fun x => [(0, .slice (some ⟨fb, fo, none⟩) l.length cap), (1, .slice r.addr st.length r.cap), (2, .slice ca C.length cc), (3, .int .i64 n), (12, .int .i64 i), (13, .slice x.2.1 x.1.length x.2.2.1), (14, .int .i64 x.2.2.2.2), (15, .pointer (some ⟨qb, 0, none⟩))])
      (fun x => [pt qb (resC q) 29, r.h 3, clH x.2.2.2.1 x.2.1 x.2.2.1 x.1]) (fun x => (stp (mGet C) n (at_ l i)).1 = mGet x.1 ∧ (stp (mGet C) n (at_ l i)).2.1 = (x.2.2.2.2 : Int) ∧ x.1.length ≤ st.length + 1 ∧ x.2.2.2.2 ≤ st.length + 1 ∧ (x.2.2.2.1 = false → ClIn Fr w x.2.1 x.1)) ?_ ?_
    · refine VC.condN rfl (fun h4 => ?_) (fun h4 => VC.skip ?_)
      · have e1 : stp (mGet C) n (at_ l i) = ((applyF (mGet C) (n + 1 : Nat) (at_ l i).op).1, ((n + 1 : Nat) : Int), (applyF (mGet C) (n + 1 : Nat) (at_ l i).op).2) := by unfold stp; rw [if_neg (by rw [h4]; simp)]; rfl
        rw [e1] at hq ⊢
        (repeat (first | refine VC.seq ?_ | refine VC.region ?_ | refine VC.block ?_ | refine VC.label ?_ | refine VC.scope ?_ | refine VO.go (VO.nil ?_) | refine VO.go (VO.ld 0 rfl rfl rfl rfl ?_)))
        refine VO.go (VO.add rfl rfl (by omega) (by omega) ?_)
        (repeat (first | refine VC.seq ?_ | refine VC.region ?_ | refine VC.block ?_ | refine VC.label ?_ | refine VC.scope ?_ | refine VO.go (VO.nil ?_) | refine VO.go (VO.ld 0 rfl rfl rfl rfl ?_)))
        refine VO.go (VO.light (light_idx i rfl rfl rfl rfl rfl rfl hi2) ?_)
        (repeat (first | refine VC.seq ?_ | refine VC.region ?_ | refine VC.block ?_ | refine VC.label ?_ | refine VC.scope ?_ | refine VO.go (VO.nil ?_) | refine VO.go (VO.ld 0 rfl rfl rfl rfl ?_)))
        refine VO.go (VO.load rfl rfl (rs _ _ 2 (at_ l i).op.cells rfl rfl rfl) ?_)
        refine VO.go (VO.call (Lc := []) (fun Fr w hF hw hS => rapply_spec Fr w (hK.of hF hw) (by omega) (n + 1 : Nat) (at_ l i).op) rfl rfl ?_)
        rintro _ L1 ⟨C', a', c', g1, g2, rfl, hcase⟩
        rw [hq]
        rcases hcase with ⟨rfl, rfl, rfl, rfl⟩ | rfl
        · (repeat (first | refine VC.seq ?_ | refine VC.region ?_ | refine VC.block ?_ | refine VC.label ?_ | refine VC.scope ?_ | refine VO.go (VO.nil ?_) | refine VO.go (VO.ld 0 rfl rfl rfl rfl ?_)))
          refine VO.go (VO.stA (vs := resC q) 0 rfl rfl rfl rfl (Nat.le_refl _) rfl rfl rfl ?_)
          (repeat (first | refine VC.seq ?_ | refine VC.region ?_ | refine VC.block ?_ | refine VC.label ?_ | refine VC.scope ?_ | refine VO.go (VO.nil ?_) | refine VO.go (VO.ld 0 rfl rfl rfl rfl ?_)))
          exact ⟨(C', a', c', false, n + 1), ⟨g1.symm, rfl, by dsimp only; omega, by dsimp only; omega, fun _ => hK⟩, Sub.cons rfl (Sub.cons rfl (Sub.cons rfl (Sub.cons rfl (Sub.cons rfl (Sub.cons rfl (Sub.cons rfl (Sub.cons rfl (Sub.nil _)))))))), (Imp.pick 0 rfl (Imp.pick 0 rfl (Imp.pure trivial Imp.nil))).ent⟩
        · (repeat (first | refine VC.seq ?_ | refine VC.region ?_ | refine VC.block ?_ | refine VC.label ?_ | refine VC.scope ?_ | refine VO.go (VO.nil ?_) | refine VO.go (VO.ld 0 rfl rfl rfl rfl ?_)))
          refine VO.go (VO.stA (vs := resC q) 1 rfl rfl rfl rfl (Nat.le_refl _) rfl rfl rfl ?_)
          (repeat (first | refine VC.seq ?_ | refine VC.region ?_ | refine VC.block ?_ | refine VC.label ?_ | refine VC.scope ?_ | refine VO.go (VO.nil ?_) | refine VO.go (VO.ld 0 rfl rfl rfl rfl ?_)))
          exact ⟨(C', a', c', true, n + 1), ⟨g1.symm, rfl, by dsimp only; omega, by dsimp only; omega, fun h => by cases h⟩, Sub.cons rfl (Sub.cons rfl (Sub.cons rfl (Sub.cons rfl (Sub.cons rfl (Sub.cons rfl (Sub.cons rfl (Sub.cons rfl (Sub.nil _)))))))), (Imp.pick 1 rfl (Imp.pick 1 rfl (Imp.pick 0 rfl Imp.nil))).ent⟩
      · have e1 : stp (mGet C) n (at_ l i) = (mGet C, (n : Int), kvLook C (at_ l i).op.key n) := by unfold stp; rw [if_pos h4]; rfl
        rw [e1] at hq ⊢
        have hq : kvLook C (at_ l i).op.key n = q := hq
        rw [hq]
        exact ⟨(C, ca, cc, false, n), ⟨rfl, rfl, by dsimp only; omega, by dsimp only; omega, fun _ => hK⟩, Sub.cons rfl (Sub.cons rfl (Sub.cons rfl (Sub.cons rfl (Sub.cons rfl (Sub.cons rfl (Sub.cons rfl (Sub.cons rfl (Sub.nil _)))))))), (Imp.pick 0 rfl (Imp.pick 0 rfl (Imp.pure trivial Imp.nil))).ent⟩
    rintro ⟨C', a', c', f, n'⟩ ⟨s1, s2, hC', hn', hCf⟩
    dsimp only at s1 s2 hC' hn' hCf ⊢
    (repeat (first | refine VC.seq ?_ | refine VC.region ?_ | refine VC.block ?_ | refine VC.label ?_ | refine VC.scope ?_ | refine VO.go (VO.nil ?_) | refine VO.go (VO.ld 0 rfl rfl rfl rfl ?_)))
    refine VO.go (VO.light (light_idx i rfl rfl rfl rfl rfl rfl hi2) ?_)
    (repeat (first | refine VC.seq ?_ | refine VC.region ?_ | refine VC.block ?_ | refine VC.label ?_ | refine VC.scope ?_ | refine VO.go (VO.nil ?_) | refine VO.go (VO.ld 0 rfl rfl rfl rfl ?_)))
    refine VO.go (VO.load rfl rfl (rs _ _ 10 (resC (at_ l i).res) rfl rfl rfl) ?_)
    refine VO.go (VO.alloc rfl fun wb => ?_)
    refine VO.go (VO.stA (vs := resC (at_ l i).res) 0 rfl rfl rfl rfl (Nat.le_refl _) rfl rfl rfl ?_)
    refine VO.go (VO.nil (VC.seq (VC.seq ?_)))
    refine VC.meetS (σ := Bool) (fun t => [(0, .slice (some ⟨fb, fo, none⟩) l.length cap), (1, .slice r.addr st.length r.cap), (2, .slice ca C.length cc), (3, .int .i64 n), (12, .int .i64 i), (13, .slice a' C'.length c'), (14, .int .i64 n'), (118, .bool t)])
      (fun _ => [r.h 3, clH f a' c' C']) (fun t => t = !tells (at_ l i) q) ?_ ?_
    · refine VC.region ?_
      (repeat (first | refine VC.seq ?_ | refine VC.region ?_ | refine VC.block ?_ | refine VC.label ?_ | refine VC.scope ?_ | refine VO.go (VO.nil ?_) | refine VO.go (VO.ld 0 rfl rfl rfl rfl ?_)))
      refine VO.go (VO.light (light_idx i rfl rfl rfl rfl rfl rfl hi2) ?_)
      (repeat (first | refine VC.seq ?_ | refine VC.region ?_ | refine VC.block ?_ | refine VC.label ?_ | refine VC.scope ?_ | refine VO.go (VO.nil ?_) | refine VO.go (VO.ld 0 rfl rfl rfl rfl ?_)))
      refine VO.go (VO.load rfl rfl (rc _ _ 8 _ rfl rfl) ?_)
      (repeat (first | refine VC.seq ?_ | refine VC.region ?_ | refine VC.block ?_ | refine VC.label ?_ | refine VC.scope ?_ | refine VO.go (VO.nil ?_) | refine VO.go (VO.ld 0 rfl rfl rfl rfl ?_)))
      refine VO.go (VO.split 98 rfl rfl (fun h4 => ?_) (fun h4 => ?_))
      · (repeat (first | refine VC.seq ?_ | refine VC.region ?_ | refine VC.block ?_ | refine VC.label ?_ | refine VC.scope ?_ | refine VO.go (VO.nil ?_) | refine VO.go (VO.ld 0 rfl rfl rfl rfl ?_) | refine VO.go (VO.ld 1 rfl rfl rfl rfl ?_) | refine VO.go (VO.offU rfl rfl rfl ?_)))
        refine VO.go (VO.split 104 rfl rfl (fun h5 => ?_) (fun h5 => ?_))
        · (repeat (first | refine VC.seq ?_ | refine VC.region ?_ | refine VC.block ?_ | refine VC.label ?_ | refine VC.scope ?_ | refine VO.go (VO.nil ?_) | refine VO.go (VO.ld 0 rfl rfl rfl rfl ?_) | refine VO.go (VO.ld 1 rfl rfl rfl rfl ?_) | refine VO.go (VO.offU rfl rfl rfl ?_)))
          refine VO.go (VO.yes 111 true rfl rfl ?_)
          (repeat (first | refine VC.seq ?_ | refine VC.region ?_ | refine VC.block ?_ | refine VC.label ?_ | refine VC.scope ?_ | refine VO.go (VO.nil ?_) | refine VO.go (VO.ld 0 rfl rfl rfl rfl ?_) | refine VO.go (VO.ld 1 rfl rfl rfl rfl ?_) | refine VO.go (VO.offU rfl rfl rfl ?_)))
          exact ⟨_, by rw [tells, show (at_ l i).done = true from h4]; simp_all, Sub.cons rfl (Sub.cons rfl (Sub.cons rfl (Sub.cons rfl (Sub.cons rfl (Sub.cons rfl (Sub.cons rfl (Sub.cons rfl (Sub.nil _)))))))), (Imp.pick 2 rfl (Imp.pick 2 rfl Imp.nil)).ent⟩
        · (repeat (first | refine VC.seq ?_ | refine VC.region ?_ | refine VC.block ?_ | refine VC.label ?_ | refine VC.scope ?_ | refine VO.go (VO.nil ?_) | refine VO.go (VO.ld 0 rfl rfl rfl rfl ?_) | refine VO.go (VO.ld 1 rfl rfl rfl rfl ?_) | refine VO.go (VO.offU rfl rfl rfl ?_)))
          refine VO.go (VO.split 111 rfl rfl (fun h6 => ?_) (fun h6 => ?_))
          · (repeat (first | refine VC.seq ?_ | refine VC.region ?_ | refine VC.block ?_ | refine VC.label ?_ | refine VC.scope ?_ | refine VO.go (VO.nil ?_) | refine VO.go (VO.ld 0 rfl rfl rfl rfl ?_) | refine VO.go (VO.ld 1 rfl rfl rfl rfl ?_) | refine VO.go (VO.offU rfl rfl rfl ?_)))
            exact ⟨_, by rw [tells, show (at_ l i).done = true from h4]; simp_all, Sub.cons rfl (Sub.cons rfl (Sub.cons rfl (Sub.cons rfl (Sub.cons rfl (Sub.cons rfl (Sub.cons rfl (Sub.cons rfl (Sub.nil _)))))))), (Imp.pick 2 rfl (Imp.pick 2 rfl Imp.nil)).ent⟩
          · (repeat (first | refine VC.seq ?_ | refine VC.region ?_ | refine VC.block ?_ | refine VC.label ?_ | refine VC.scope ?_ | refine VO.go (VO.nil ?_) | refine VO.go (VO.ld 0 rfl rfl rfl rfl ?_) | refine VO.go (VO.ld 1 rfl rfl rfl rfl ?_) | refine VO.go (VO.offU rfl rfl rfl ?_)))
            exact ⟨_, by rw [tells, show (at_ l i).done = true from h4]; simp_all; rfl, Sub.cons rfl (Sub.cons rfl (Sub.cons rfl (Sub.cons rfl (Sub.cons rfl (Sub.cons rfl (Sub.cons rfl (Sub.cons rfl (Sub.nil _)))))))), (Imp.pick 2 rfl (Imp.pick 2 rfl Imp.nil)).ent⟩
      · (repeat (first | refine VC.seq ?_ | refine VC.region ?_ | refine VC.block ?_ | refine VC.label ?_ | refine VC.scope ?_ | refine VO.go (VO.nil ?_) | refine VO.go (VO.ld 0 rfl rfl rfl rfl ?_) | refine VO.go (VO.ld 1 rfl rfl rfl rfl ?_) | refine VO.go (VO.offU rfl rfl rfl ?_)))
        exact ⟨_, by rw [tells, show (at_ l i).done = false from h4]; rfl, Sub.cons rfl (Sub.cons rfl (Sub.cons rfl (Sub.cons rfl (Sub.cons rfl (Sub.cons rfl (Sub.cons rfl (Sub.cons rfl (Sub.nil _)))))))), (Imp.pick 2 rfl (Imp.pick 2 rfl Imp.nil)).ent⟩
    intro t ht
    refine VC.cond rfl (fun h4 => VC.exit ?_) (fun h4 => VC.skip ?_)
    · have htl : tells (at_ l i) q = false := by rw [h4] at ht; cases hh : tells (at_ l i) q with
        | false => rfl
        | true => rw [hh] at ht; cases ht
      have hno : way l m st (mGet C) n i = none := by unfold way; rw [hq, htl, Bool.and_false]; rfl
      (repeat (first | refine VC.seq ?_ | refine VC.region ?_ | refine VC.block ?_ | refine VC.label ?_ | refine VC.scope ?_ | refine VO.go (VO.nil ?_) | refine VO.go (VO.ld 0 rfl rfl rfl rfl ?_)))
      refine VO.go (VO.add rfl rfl (by omega) (by omega) ?_)
      (repeat (first | refine VC.seq ?_ | refine VC.region ?_ | refine VC.block ?_ | refine VC.label ?_ | refine VC.scope ?_ | refine VO.go (VO.nil ?_) | refine VO.go (VO.ld 0 rfl rfl rfl rfl ?_)))
      refine ⟨i + 1, ⟨hi2, ?_⟩, by dsimp only; omega, Sub.cons rfl (Sub.cons rfl (Sub.cons rfl (Sub.cons rfl (Sub.cons rfl (Sub.nil _))))), (Imp.pick 0 rfl Imp.nil).ent⟩
      rw [hno] at hJ
      exact hJ
    have htl : tells (at_ l i) q = true := by rw [h4] at ht; cases hh : tells (at_ l i) q with
      | true => rfl
      | false => rw [hh] at ht; cases ht
    have hway : way l m st (mGet C) n i = solve l m (st ++ [i]) (mGet C') n' := by unfold way; rw [hq, htl, h3, s1, s2]; rfl
    have hL1 : (st ++ [i]).length = st.length + 1 := by simp
    have e2 : ∀ {a2 : Option Addr} {c2 : Nat}, Value.slice a2 (0 + st.length + 1) c2 = Value.slice a2 (st ++ [i]).length c2 := fun {a2 c2} => by rw [hL1, Nat.zero_add]
    have e1 : ∀ {a2 : Option Addr} {c2 : Nat}, slH 3 1 a2 (0 + st.length + 1) c2 ([] ++ flat iC (stR st) ++ [.int .i64 (i : Int)]) = stH a2 c2 (st ++ [i]) := fun {a2 c2} => by
      show _ = slH 3 1 a2 (st ++ [i]).length c2 (flat iC (stR (st ++ [i])))
      rw [hL1, Nat.zero_add, stR_snoc, flat_append, flat_cons, flat_nil]; rfl
    refine VC.seq (VC.region ?_)
    (repeat (first | refine VC.seq ?_ | refine VC.region ?_ | refine VC.block ?_ | refine VC.label ?_ | refine VC.scope ?_ | refine VO.go (VO.nil ?_) | refine VO.go (VO.ld 0 rfl rfl rfl rfl ?_)))
    refine VO.ent (L' := slH 3 1 none 0 0 [] :: r.h 3 :: clH f a' c' C' :: []) (Imp.slNil (Imp.pick 0 rfl (Imp.pick 0 rfl Imp.nil))).ent ?_
    refine VO.go (VO.append (m := st.length) (news := flat iC (stR st)) 0 rfl rfl rfl rfl rfl rfl rfl (hrow 1 rfl) (flat_all (fun _ => rfl) _) (by show (0 + st.length) * 8 ≤ _; omega) (by omega) fun a1 c1 hc1 => ?_)
    (repeat (first | refine VC.seq ?_ | refine VC.region ?_ | refine VC.block ?_ | refine VC.label ?_ | refine VC.scope ?_ | refine VO.go (VO.nil ?_) | refine VO.go (VO.ld 0 rfl rfl rfl rfl ?_)))
    refine VO.go (VO.buildSlice [.int .i64 i] rfl rfl rfl rfl (by decide) rfl fun nb => ?_)
    refine VO.go (VO.append (m := 1) (news := [.int .i64 i]) 1 rfl rfl rfl rfl rfl rfl rfl (RdRow.pt 0 rfl rfl rfl) rfl (by show (0 + st.length + 1) * 8 ≤ _; omega) (by omega) fun a2 c2 hc2 => ?_)
    rw [e1, e2]
    (repeat (first | refine VC.seq ?_ | refine VC.region ?_ | refine VC.block ?_ | refine VC.label ?_ | refine VC.scope ?_ | refine VO.go (VO.nil ?_) | refine VO.go (VO.ld 0 rfl rfl rfl rfl ?_)))
    refine VO.go (VO.call (Lc := [stH a2 c2 (st ++ [i])]) (Lr := [pt nb [.int .i64 i] 3, r.h 3, clH f a' c' C'])
      (fun Fr w hF hw hS => ih m (by omega) Fr w (hR.of hF hw) (cl_in (hS.at_ 2 rfl) (fun h => (hCf h).of hF hw)) (by omega) (by omega) (List.nodup_append.2 ⟨hnd, by simp, fun j hj y hy e => by simp at hy; rw [e, hy] at hj; exact hni hj⟩) (fun j hj => by
        rcases List.mem_append.1 hj with hj | hj
        · exact hlt j hj
        · simp at hj; omega) (by omega)) rfl rfl ?_)
    rintro v L1 (⟨ho, rfl, rfl⟩ | ⟨o, a3, c3, ho, rfl, rfl⟩)
    · rw [hway, ho] at hJ
      (repeat (first | refine VC.seq ?_ | refine VC.region ?_ | refine VC.block ?_ | refine VC.label ?_ | refine VC.scope ?_ | refine VO.go (VO.nil ?_) | refine VO.go (VO.ld 0 rfl rfl rfl rfl ?_)))
      refine VC.condF rfl (VC.skip ?_)
      (repeat (first | refine VC.seq ?_ | refine VC.region ?_ | refine VC.block ?_ | refine VC.label ?_ | refine VC.scope ?_ | refine VO.go (VO.nil ?_) | refine VO.go (VO.ld 0 rfl rfl rfl rfl ?_)))
      refine VO.go (VO.add rfl rfl (by omega) (by omega) ?_)
      (repeat (first | refine VC.seq ?_ | refine VC.region ?_ | refine VC.block ?_ | refine VC.label ?_ | refine VC.scope ?_ | refine VO.go (VO.nil ?_) | refine VO.go (VO.ld 0 rfl rfl rfl rfl ?_)))
      exact ⟨i + 1, ⟨hi2, hJ⟩, by dsimp only; omega, Sub.cons rfl (Sub.cons rfl (Sub.cons rfl (Sub.cons rfl (Sub.cons rfl (Sub.nil _))))), (Imp.pick 1 rfl Imp.nil).ent⟩
    · rw [hway, ho] at hJ
      (repeat (first | refine VC.seq ?_ | refine VC.region ?_ | refine VC.block ?_ | refine VC.label ?_ | refine VC.scope ?_ | refine VO.go (VO.nil ?_) | refine VO.go (VO.ld 0 rfl rfl rfl rfl ?_)))
      refine VC.condT rfl ?_
      (repeat (first | refine VC.seq ?_ | refine VC.region ?_ | refine VC.block ?_ | refine VC.label ?_ | refine VC.scope ?_ | refine VO.go (VO.nil ?_) | refine VO.go (VO.ld 0 rfl rfl rfl rfl ?_)))
      exact VC.ret (Ret.tmp2 8 9 rfl rfl rfl (Imp.pick 0 rfl Imp.nil).ent (.inr ⟨o, a3, c3, hJ, rfl, rfl⟩))
  · obtain rfl : i = l.length := by omega
    rw [List.drop_of_length_le (by simp), List.findSome?_nil] at hJ
    (repeat (first | refine VC.seq ?_ | refine VC.region ?_ | refine VC.block ?_ | refine VC.label ?_ | refine VC.scope ?_ | refine VO.go (VO.nil ?_) | refine VO.go (VO.ld 0 rfl rfl rfl rfl ?_)))
    exact VC.ret (Ret.tmp2 8 9 rfl rfl rfl Imp.nil.ent (.inl ⟨hJ, rfl, rfl⟩))
end Go.Proofs.YthabecjplpomhaaDoor.Br
