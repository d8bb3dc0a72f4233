/- Layer 33: whether calls are linear, and their first order. No condition but the table of powers of ten. -/
import Derived.Test.YthabecjplpomhaaDoorBrG
namespace Go.Proofs.YthabecjplpomhaaDoor.Br
open Go Go.Proofs.YthabecjplpomhaaDoor.Vg Go.Proofs.YthabecjplpomhaaDoor.T Go.Proofs.YthabecjplpomhaaDoor.Api Go.Proofs.YthabecjplpomhaaDoor.Kv Go.Proofs.YthabecjplpomhaaDoor.LibC
set_option linter.unusedSimpArgs false
set_option linter.unusedVariables false
attribute [local irreducible] VO VC VA

def opsOk (l : List RecM) : Bool := l.all fun r => decide (opCheck r.op = 0)
def checkM (l : List RecM) : Int := if 8 < l.length then 3 else if opsOk l then 0 else 2
theorem opsOk_all {l : List RecM} (h : opsOk l = true) : ∀ r ∈ l, opCheck r.op = 0 := fun r hr => of_decide_eq_true (List.all_eq_true.1 h r hr)

set_option maxRecDepth 100000 in
theorem bcheck_spec (Fr : Nat → Prop) (w : World) {a : Option Addr} {cap : Nat} {l : List RecM} (h : RecsIn Fr w a l) (hl : l.length ≤ 9223372036854775807) :
    Tri Tryd.prog 14 [.slice a l.length cap] Fr w [] (fun v L => v = .int .i64 (checkM l) ∧ L = []) := by
  refine Tri.of 19 Tryd.func14 rfl (by kernel_rfl) tabOk rfl rfl ?_
  (repeat (first | refine VC.seq ?_ | refine VC.region ?_ | refine VC.block ?_ | refine VC.label ?_ | refine VC.scope ?_ | refine VO.go (VO.nil ?_) | refine VO.go (VO.ld 0 rfl rfl rfl rfl ?_)))
  refine VC.condP rfl (fun h1 => ?_) (fun h1 => VC.skip ?_)
  · (repeat (first | refine VC.seq ?_ | refine VC.region ?_ | refine VC.block ?_ | refine VC.label ?_ | refine VC.scope ?_ | refine VO.go (VO.nil ?_) | refine VO.go (VO.ld 0 rfl rfl rfl rfl ?_)))
    exact VC.ret (Ret.int 2 rfl rfl (by rw [checkM, if_pos (by omega)]) Ent.refl ⟨rfl, rfl⟩)
  (repeat (first | refine VC.seq ?_ | refine VC.region ?_ | refine VC.block ?_ | refine VC.label ?_ | refine VC.scope ?_ | refine VO.go (VO.nil ?_) | refine VO.go (VO.ld 0 rfl rfl rfl rfl ?_)))
  refine VC.loop (σ := Nat) (fun j => [(0, .slice a l.length cap), (8, .slice a l.length cap), (9, .int .i64 l.length), (10, .int .i64 j)]) (fun _ => []) (fun j => j ≤ l.length ∧ ∀ r ∈ l.take j, opCheck r.op = 0) (fun j => l.length - j) 0
    ⟨Nat.zero_le _, fun r hr => by simp at hr⟩ (Sub.cons rfl (Sub.cons rfl (Sub.cons rfl (Sub.cons rfl (Sub.nil _))))) Ent.refl ?_
  rintro j ⟨hj, hall⟩
  (repeat (first | refine VC.seq ?_ | refine VC.region ?_ | refine VC.block ?_ | refine VC.label ?_ | refine VC.scope ?_ | refine VO.go (VO.nil ?_) | refine VO.go (VO.ld 0 rfl rfl rfl rfl ?_)))
  refine VC.condP rfl (fun h2 => VC.skip ?_) (fun h2 => VC.exit ?_)
  · have hj2 : j < l.length := by omega
    obtain ⟨fb, fo, rfl, ra, rc⟩ := RwIn.rd (X := ⟨Tryd.prog, tab, tabOk, 19, Fr, w⟩) h (at_get hj2)
    (repeat (first | refine VC.seq ?_ | refine VC.region ?_ | refine VC.block ?_ | refine VC.label ?_ | refine VC.scope ?_ | refine VO.go (VO.nil ?_) | refine VO.go (VO.ld 0 rfl rfl rfl rfl ?_)))
    refine VO.go (VO.light (light_idx j rfl rfl rfl rfl rfl rfl hj2) ?_)
    refine VO.go (VO.load rfl rfl (ra _ _ rfl rfl) ?_)
    refine VO.go (VO.alloc rfl fun b => ?_)
    refine VO.go (VO.stA (vs := recC (at_ l j)) 0 rfl rfl rfl rfl (Nat.le_refl _) rfl rfl rfl ?_)
    (repeat (first | refine VC.seq ?_ | refine VC.region ?_ | refine VC.block ?_ | refine VC.label ?_ | refine VC.scope ?_ | refine VO.go (VO.nil ?_) | refine VO.go (VO.ld 0 rfl rfl rfl rfl ?_)))
    refine VO.go (VO.ldA 0 (at_ l j).op.cells rfl rfl rfl rfl ?_)
    refine VO.go (VO.callV (fun Fr w => check_spec Fr w (at_ l j).op) rfl ?_)
    (repeat (first | refine VC.seq ?_ | refine VC.region ?_ | refine VC.block ?_ | refine VC.label ?_ | refine VC.scope ?_ | refine VO.go (VO.nil ?_) | refine VO.go (VO.ld 0 rfl rfl rfl rfl ?_)))
    refine VC.condNE rfl (fun h3 => ?_) (fun h3 => VC.skip ?_)
    · (repeat (first | refine VC.seq ?_ | refine VC.region ?_ | refine VC.block ?_ | refine VC.label ?_ | refine VC.scope ?_ | refine VO.go (VO.nil ?_) | refine VO.go (VO.ld 0 rfl rfl rfl rfl ?_)))
      refine VC.ret (Ret.int 2 rfl rfl ?_ Imp.nil.ent ⟨rfl, rfl⟩)
      have : opsOk l = false := by
        rw [Bool.eq_false_iff]
        exact fun hc => h3 (opsOk_all hc _ (List.mem_of_getElem? (at_get hj2)))
      rw [checkM, if_neg (by omega), this]; simp
    · (repeat (first | refine VC.seq ?_ | refine VC.region ?_ | refine VC.block ?_ | refine VC.label ?_ | refine VC.scope ?_ | refine VO.go (VO.nil ?_) | refine VO.go (VO.ld 0 rfl rfl rfl rfl ?_)))
      refine VO.go (VO.add rfl rfl (by omega) (by omega) ?_)
      (repeat (first | refine VC.seq ?_ | refine VC.region ?_ | refine VC.block ?_ | refine VC.label ?_ | refine VC.scope ?_ | refine VO.go (VO.nil ?_) | refine VO.go (VO.ld 0 rfl rfl rfl rfl ?_)))
      refine ⟨j + 1, ⟨hj2, fun r hr => ?_⟩, by dsimp only; omega, Sub.cons rfl (Sub.cons rfl (Sub.cons rfl (Sub.cons rfl (Sub.nil _)))), Imp.nil.ent⟩
      rw [List.take_add_one, at_get hj2] at hr
      rcases List.mem_append.1 hr with hr | hr
      · exact hall r hr
      · simp at hr; rw [hr]; exact h3
  · obtain rfl : j = l.length := by omega
    (repeat (first | refine VC.seq ?_ | refine VC.region ?_ | refine VC.block ?_ | refine VC.label ?_ | refine VC.scope ?_ | refine VO.go (VO.nil ?_) | refine VO.go (VO.ld 0 rfl rfl rfl rfl ?_)))
    refine VC.ret (Ret.int 2 rfl rfl ?_ Ent.refl ⟨rfl, rfl⟩)
    rw [List.take_length] at hall
    have : opsOk l = true := List.all_eq_true.2 fun r hr => decide_eq_true (hall r hr)
    rw [checkM, if_neg (by omega), this]; simp

theorem RwIn.sl {α : Type} {c : α → List Value} {n el cap : Nat} {a : Option Addr} {xs : List α} {Fr : Nat → Prop} {w : World} (hc : ∀ x, (c x).length = n) (h : SatIn Fr [slH el n a xs.length cap (flat c xs)] w) : RwIn c n Fr w a xs := by
  obtain ⟨F, ⟨ids, G, hF, ⟨h1, h2⟩, hG⟩, hf⟩ := h
  rcases h2 with ⟨rfl, h3, _, _⟩ | ⟨b, rest, rfl, rfl, h4, h5, h6⟩
  · obtain rfl : xs = [] := List.eq_nil_of_length_eq_zero h3
    exact RwIn.nil
  · exact ⟨fun _ => ⟨b, 0, rfl, hf b (by rw [hF]; simp), fun i x hx => rangeAt_blk h6 (by rw [Nat.zero_add]; exact flat_row hc hx rest)⟩⟩
theorem ordC_flat (o : List Nat) : ordC o = flat (fun x : Int => [Value.int .i64 x]) (o.map fun (i : Nat) => (i : Int)) := by rw [flat_one, List.map_map]; rfl

theorem cloneO_spec (Fr : Nat → Prop) (w : World) {a : Option Addr} {cap : Nat} {o : List Nat} (h : SatIn Fr [slH 3 1 a o.length cap (ordC o)] w) (hl : o.length * 8 ≤ 140737488355328) :
    Tri Tryd.prog 29 [.slice a o.length cap] Fr w [] (fun v L => ∃ a' cap', v = .slice a' o.length cap' ∧ o.length ≤ cap' ∧ L = [slH 3 1 a' o.length cap' (ordC o)]) := by
  have e : o.length = (o.map fun (i : Nat) => (i : Int)).length := by simp
  have e2 : ordC o = (o.map fun (i : Nat) => (i : Int)).map (Value.int .i64) := by rw [List.map_map]; rfl
  rw [ordC_flat] at h
  rw [e2]
  generalize (o.map fun (i : Nat) => (i : Int)) = xs at e h ⊢
  rw [e] at h hl ⊢
  exact cloneI_spec Fr w (RwIn.sl (fun _ => rfl) h) hl
/-- The first order, from the start. -/
def orderM (l : List RecM) : Option (List Nat) := solve l l.length [] (fun _ => none) 0
def DTo (l : List RecM) (j D : Nat) : Prop := ∀ i, D.testBit i = decide (i < j ∧ (at_ l i).done = true)
theorem DTo.lt {l : List RecM} {j D : Nat} (h : DTo l j D) : D < 2 ^ j := by
  apply Nat.lt_pow_two_of_testBit
  intro i hi
  rw [h i]
  simp; omega
theorem DTo.yes {l : List RecM} {j D : Nat} (h : DTo l j D) (hd : (at_ l j).done = true) : DTo l (j + 1) (D ||| 2 ^ j) := fun i => by
  rw [Nat.testBit_or, h i, Nat.testBit_two_pow]
  by_cases hj : j = i
  · subst hj; simp [hd]
  · by_cases hi : i < j
    · simp [hi, hj, show i < j + 1 by omega]
    · simp [hi, hj, show ¬ i < j + 1 by omega]
theorem DTo.no {l : List RecM} {j D : Nat} (h : DTo l j D) (hd : (at_ l j).done = false) : DTo l (j + 1) D := fun i => by
  rw [h i]
  by_cases hj : j = i
  · subst hj; simp [hd]
  · by_cases hi : i < j
    · simp [hi, show i < j + 1 by omega]
    · simp [hi, show ¬ i < j + 1 by omega]

set_option maxRecDepth 100000 in
set_option maxHeartbeats 1000000 in
theorem blook_spec (Fr : Nat → Prop) (w : World) {a : Option Addr} {cap : Nat} {l : List RecM} (h : RecsIn Fr w a l) (hl : l.length ≤ 8) (hops : opsOk l = true) (hT : TabF Fr w) :
    Tri Tryd.prog 15 [.slice a l.length cap] Fr w [] (fun v L => (orderM l = none ∧ v = .tuple #[.slice none 0 0, .bool false] ∧ L = []) ∨
      ∃ o a' cap', orderM l = some o ∧ v = .tuple #[.slice a' o.length cap', .bool true] ∧ o.length ≤ cap' ∧ L = [slH 3 1 a' o.length cap' (ordC o)]) := by
  refine Tri.of 39 Tryd.func15 rfl (by kernel_rfl) tabOk rfl rfl ?_
  (repeat (first | refine VC.seq ?_ | refine VC.region ?_ | refine VC.block ?_ | refine VC.label ?_ | refine VC.scope ?_ | refine VO.go (VO.nil ?_) | refine VO.go (VO.ld 0 rfl rfl rfl rfl ?_)))
  refine VO.go (VO.opx (OpT.makeMap isV intV) ?_)
  rintro _ _ ⟨vb, rfl, rfl⟩
  refine VO.go (VO.light (light_build (pv := [(0, .slice a l.length cap), (2, .map (some vb))]) [.slice a l.length cap, .int .i64 0, .map (some vb), .slice none 0 0] rfl rfl rfl (by kernel_rfl) rfl) ?_)
  refine VO.go (VO.boxA (vs := [.slice a l.length cap, .int .i64 0, .map (some vb), .slice none 0 0]) rfl fun sp => ?_)
  (repeat (first | refine VC.seq ?_ | refine VC.region ?_ | refine VC.block ?_ | refine VC.label ?_ | refine VC.scope ?_ | refine VO.go (VO.nil ?_) | refine VO.go (VO.ld 0 rfl rfl rfl rfl ?_)))
  refine VC.loop (σ := Nat × Nat) (fun x => [(0, .slice a l.length cap), (4, .pointer (some ⟨sp, 0, none⟩)), (11, .slice a l.length cap), (12, .int .i64 l.length), (13, .int .i64 x.1)])
    (fun x => [pt sp [.slice a l.length cap, .int .i64 (x.2 : Int), .map (some vb), .slice none 0 0] 69, mapH isV intV vb []]) (fun x => x.1 ≤ l.length ∧ DTo l x.1 x.2) (fun x => l.length - x.1) (0, 0)
    ⟨Nat.zero_le _, fun i => by simp⟩ (Sub.cons rfl (Sub.cons rfl (Sub.cons rfl (Sub.cons rfl (Sub.cons rfl (Sub.nil _)))))) Ent.refl ?_
  rintro ⟨j, D⟩ ⟨hj, hD⟩
  dsimp only at hj hD ⊢
  (repeat (first | refine VC.seq ?_ | refine VC.region ?_ | refine VC.block ?_ | refine VC.label ?_ | refine VC.scope ?_ | refine VO.go (VO.nil ?_) | refine VO.go (VO.ld 0 rfl rfl rfl rfl ?_)))
  refine VC.condP rfl (fun h2 => VC.skip ?_) (fun h2 => VC.exit ?_)
  · have hj2 : j < l.length := by omega
    have hD2 : D < 256 := Nat.lt_of_lt_of_le hD.lt (Nat.pow_le_pow_right (by decide) (by omega) : 2 ^ j ≤ 2 ^ 8)
    obtain ⟨fb, fo, rfl, ra, rc⟩ := RwIn.rd (X := ⟨Tryd.prog, tab, tabOk, 39, Fr, w⟩) h (at_get hj2)
    (repeat (first | refine VC.seq ?_ | refine VC.region ?_ | refine VC.block ?_ | refine VC.label ?_ | refine VC.scope ?_ | refine VO.go (VO.nil ?_) | refine VO.go (VO.ld 0 rfl rfl rfl rfl ?_)))
    refine VO.go (VO.light (light_idx j rfl rfl rfl rfl rfl rfl hj2) ?_)
    refine VO.go (VO.load rfl rfl (ra _ _ rfl rfl) ?_)
    refine VO.go (VO.alloc rfl fun b => ?_)
    (repeat (first | refine VC.seq ?_ | refine VC.region ?_ | refine VC.block ?_ | refine VC.label ?_ | refine VC.scope ?_ | refine VO.go (VO.nil ?_) | refine VO.go (VO.ld 0 rfl rfl rfl rfl ?_)))
    refine VO.go (VO.stA (vs := recC (at_ l j)) 0 rfl rfl rfl rfl (Nat.le_refl _) rfl rfl rfl ?_)
    (repeat (first | refine VC.seq ?_ | refine VC.region ?_ | refine VC.block ?_ | refine VC.label ?_ | refine VC.scope ?_ | refine VO.go (VO.nil ?_) | refine VO.go (VO.ld 0 rfl rfl rfl rfl ?_)))
    refine VO.go (VO.ldA 0 (recC (at_ l j)) rfl rfl rfl rfl ?_)
    refine VO.go (VO.callV (fun Fr w => isDone_spec Fr w (at_ l j)) rfl ?_)
    (repeat (first | refine VC.seq ?_ | refine VC.region ?_ | refine VC.block ?_ | refine VC.label ?_ | refine VC.scope ?_ | refine VO.go (VO.nil ?_) | refine VO.go (VO.ld 0 rfl rfl rfl rfl ?_)))
    refine VC.cond rfl (fun h3 => ?_) (fun h3 => VC.skip ?_)
    · refine VC.draw (ts 0 9 (.only 9 .nil)) (by kernel_rfl) (by decide +kernel) ?_
      (repeat (first | refine VA.go (VA.nil ?_) | refine VA.go (VA.ld 0 rfl rfl rfl rfl rfl ?_) | refine VA.go (VA.ld 1 rfl rfl rfl rfl rfl ?_) | refine VA.go (VA.ld 2 rfl rfl rfl rfl rfl ?_) | refine VA.go (VA.offU rfl rfl rfl rfl ?_)))
      refine VA.go (VA.light rfl (light_bit rfl (by omega)) ?_)
      (repeat (first | refine VA.go (VA.nil ?_) | refine VA.go (VA.ld 0 rfl rfl rfl rfl rfl ?_) | refine VA.go (VA.ld 1 rfl rfl rfl rfl rfl ?_) | refine VA.go (VA.ld 2 rfl rfl rfl rfl rfl ?_) | refine VA.go (VA.offU rfl rfl rfl rfl ?_)))
      refine VA.go (VA.light rfl (light_or rfl rfl (by omega) (pow_small j (by omega))) ?_)
      (repeat (first | refine VA.go (VA.nil ?_) | refine VA.go (VA.ld 0 rfl rfl rfl rfl rfl ?_) | refine VA.go (VA.ld 1 rfl rfl rfl rfl rfl ?_) | refine VA.go (VA.ld 2 rfl rfl rfl rfl rfl ?_) | refine VA.go (VA.offU rfl rfl rfl rfl ?_)))
      refine VA.go (VA.st 1 (cs' := [.slice (some ⟨fb, fo, none⟩) l.length cap, .int .i64 ((D ||| 2 ^ j : Nat) : Int), .map (some vb), .slice none 0 0]) rfl rfl rfl rfl rfl (by show 0 + 1 < 4; omega) rfl rfl (by (try refine Pd.st ?_); (repeat (first | exact Pd.nil | exact Pd.fnil | refine Pd.inner ?_ | refine Pd.skip (by decide +kernel) ?_ | refine Pd.fcons (RdL.one 0 rfl rfl) ?_ | refine Pd.fcons (RdL.one 1 rfl rfl) ?_ | refine Pd.fcons (RdL.one 2 rfl rfl) ?_ | refine Pd.fcons (RdL.one 3 rfl rfl) ?_ | refine Pd.fcons (RdL.many 0 rfl rfl) ?_ | refine Pd.fcons (RdL.many 1 rfl rfl) ?_ | refine Pd.fcons (RdL.many 2 rfl rfl) ?_ | refine Pd.fcons (RdL.many 3 rfl rfl) ?_ | refine Pd.cons (RdL.one 0 rfl rfl) ?_ | refine Pd.cons (RdL.one 1 rfl rfl) ?_ | refine Pd.cons (RdL.one 2 rfl rfl) ?_ | refine Pd.cons (RdL.one 3 rfl rfl) ?_ | refine Pd.cons (RdL.many 0 rfl rfl) ?_ | refine Pd.cons (RdL.many 1 rfl rfl) ?_ | refine Pd.cons (RdL.many 2 rfl rfl) ?_ | refine Pd.cons (RdL.many 3 rfl rfl) ?_ | refine Pd.fconsM (MpL.one 0 rfl) ?_ | refine Pd.fconsM (MpL.one 1 rfl) ?_ | refine Pd.fconsM (MpL.one 2 rfl) ?_ | refine Pd.fconsM (MpL.one 3 rfl) ?_ | refine Pd.consM (MpL.one 0 rfl) ?_ | refine Pd.consM (MpL.one 1 rfl) ?_ | refine Pd.consM (MpL.one 2 rfl) ?_ | refine Pd.consM (MpL.one 3 rfl) ?_))) ?_)
      refine VA.go (VA.nil ?_)
      (repeat (first | refine VC.seq ?_ | refine VC.region ?_ | refine VC.block ?_ | refine VC.label ?_ | refine VC.scope ?_ | refine VO.go (VO.nil ?_) | refine VO.go (VO.ld 0 rfl rfl rfl rfl ?_)))
      refine VO.go (VO.add rfl rfl (by omega) (by omega) ?_)
      (repeat (first | refine VC.seq ?_ | refine VC.region ?_ | refine VC.block ?_ | refine VC.label ?_ | refine VC.scope ?_ | refine VO.go (VO.nil ?_) | refine VO.go (VO.ld 0 rfl rfl rfl rfl ?_)))
      exact ⟨(j + 1, D ||| 2 ^ j), ⟨hj2, hD.yes h3⟩, by dsimp only; omega, Sub.cons rfl (Sub.cons rfl (Sub.cons rfl (Sub.cons rfl (Sub.cons rfl (Sub.nil _))))), (Imp.pick 1 rfl (Imp.pick 1 rfl Imp.nil)).ent⟩
    · (repeat (first | refine VC.seq ?_ | refine VC.region ?_ | refine VC.block ?_ | refine VC.label ?_ | refine VC.scope ?_ | refine VO.go (VO.nil ?_) | refine VO.go (VO.ld 0 rfl rfl rfl rfl ?_)))
      refine VO.go (VO.add rfl rfl (by omega) (by omega) ?_)
      (repeat (first | refine VC.seq ?_ | refine VC.region ?_ | refine VC.block ?_ | refine VC.label ?_ | refine VC.scope ?_ | refine VO.go (VO.nil ?_) | refine VO.go (VO.ld 0 rfl rfl rfl rfl ?_)))
      exact ⟨(j + 1, D), ⟨hj2, hD.no h3⟩, by dsimp only; omega, Sub.cons rfl (Sub.cons rfl (Sub.cons rfl (Sub.cons rfl (Sub.cons rfl (Sub.nil _))))), (Imp.pick 1 rfl (Imp.pick 1 rfl Imp.nil)).ent⟩
  · obtain rfl : j = l.length := by omega
    (repeat (first | refine VC.seq ?_ | refine VC.region ?_ | refine VC.block ?_ | refine VC.label ?_ | refine VC.scope ?_ | refine VO.go (VO.nil ?_) | refine VO.go (VO.ld 0 rfl rfl rfl rfl ?_)))
    refine VO.go (VO.call0 rfl (fun Fr w => new_spec Fr w) ?_)
    rintro _ _ ⟨p, rfl, rfl⟩
    refine VO.ent (L' := [srH sp a l.length cap D [] [], kvH p []]) (Imp.sr (vb, none, 0) (Nat.zero_le _) (Imp.pick 1 rfl (Imp.pick 1 rfl (Imp.slNil (Imp.pick 0 rfl Imp.nil))))).ent ?_
    refine VO.go (VO.call (Lc := [srH sp a l.length cap D [] []]) (Lr := [kvH p []]) (vals := [.pointer (some ⟨sp, 0, none⟩), .int .i64 ((0 : Nat) : Int), .int .i64 (upd l [] : Int), .pointer (some ⟨p, 0, none⟩)])
      (fun Fr w hF hs hS => find_spec hl (opsOk_all hops) hD l.length Fr w (s := 0) (h.of hF hs) (hS.at_ 0 rfl) ⟨by rw [upd_nil]; exact Nat.le_refl _, fun x hx => by cases hx⟩ (TabF.st rfl hT hF hs) (fun i => by simp) .nil (fun i hi => by cases hi) (by simp) (VInv.nil l)) (by rw [upd_nil]; rfl) rfl ?_)
    rw [upd_nil]
    rintro v L1 ⟨V3, hV3, ⟨o, ho, rfl, rfl⟩ | ⟨ho, rfl, rfl⟩⟩
    · (repeat (first | refine VC.seq ?_ | refine VC.region ?_ | refine VC.block ?_ | refine VC.label ?_ | refine VC.scope ?_ | refine VO.go (VO.nil ?_) | refine VO.go (VO.ld 0 rfl rfl rfl rfl ?_)))
      refine VC.condF rfl (VC.skip ?_)
      refine VC.opn 0 rfl (HOpn.sr sp a l.length cap D V3 o) ?_
      rintro ⟨vb4, oa4, oc4⟩ hoc4
      dsimp only at hoc4
      have hol : o.length ≤ 8 := Nat.le_trans (solve_len (st := []) .nil (fun i hi => by cases hi) ho) hl
      (repeat (first | refine VC.seq ?_ | refine VC.region ?_ | refine VC.block ?_ | refine VC.label ?_ | refine VC.scope ?_ | refine VO.go (VO.nil ?_) | refine VO.go (VO.ld 0 rfl rfl rfl rfl ?_)))
      refine VO.go (VO.call (Lc := []) (fun Fr w hF hs hS => cloneO_spec Fr w (hS.at_ 2 rfl) (by omega)) rfl rfl ?_)
      rintro _ _ ⟨a', cap', rfl, hc', rfl⟩
      (repeat (first | refine VC.seq ?_ | refine VC.region ?_ | refine VC.block ?_ | refine VC.label ?_ | refine VC.scope ?_ | refine VO.go (VO.nil ?_) | refine VO.go (VO.ld 0 rfl rfl rfl rfl ?_)))
      exact VC.ret (Ret.tmp2 2 3 rfl rfl rfl (Imp.pick 0 rfl Imp.nil).ent (.inr ⟨o, a', cap', ho, rfl, hc', rfl⟩))
    · (repeat (first | refine VC.seq ?_ | refine VC.region ?_ | refine VC.block ?_ | refine VC.label ?_ | refine VC.scope ?_ | refine VO.go (VO.nil ?_) | refine VO.go (VO.ld 0 rfl rfl rfl rfl ?_)))
      refine VC.condT rfl ?_
      (repeat (first | refine VC.seq ?_ | refine VC.region ?_ | refine VC.block ?_ | refine VC.label ?_ | refine VC.scope ?_ | refine VO.go (VO.nil ?_) | refine VO.go (VO.ld 0 rfl rfl rfl rfl ?_)))
      exact VC.ret (Ret.tmp2 2 3 rfl rfl rfl Imp.nil.ent (.inl ⟨ho, rfl, rfl⟩))

def linOk (l : List RecM) : Bool := decide (checkM l = 0) && (orderM l).isSome
set_option maxRecDepth 100000 in
theorem linear_spec (Fr : Nat → Prop) (w : World) {a : Option Addr} {cap : Nat} {l : List RecM} (h : RecsIn Fr w a l) (hl : l.length ≤ 9223372036854775807) (hT : TabF Fr w) :
    Tri Tryd.prog 9 [.slice a l.length cap] Fr w [] (fun v L => v = .tuple #[.bool (linOk l), .int .i64 (checkM l)] ∧ L = []) := by
  refine Tri.of 15 Tryd.func9 rfl (by kernel_rfl) tabOk rfl rfl ?_
  (repeat (first | refine VC.seq ?_ | refine VC.region ?_ | refine VC.block ?_ | refine VC.label ?_ | refine VC.scope ?_ | refine VO.go (VO.nil ?_) | refine VO.go (VO.ld 0 rfl rfl rfl rfl ?_)))
  refine VO.go (VO.callV' (fun Fr w hF hs _ => bcheck_spec Fr w (h.of hF hs) hl) rfl ?_)
  (repeat (first | refine VC.seq ?_ | refine VC.region ?_ | refine VC.block ?_ | refine VC.label ?_ | refine VC.scope ?_ | refine VO.go (VO.nil ?_) | refine VO.go (VO.ld 0 rfl rfl rfl rfl ?_)))
  refine VC.condNE rfl (fun h1 => ?_) (fun h1 => VC.skip ?_)
  · (repeat (first | refine VC.seq ?_ | refine VC.region ?_ | refine VC.block ?_ | refine VC.label ?_ | refine VC.scope ?_ | refine VO.go (VO.nil ?_) | refine VO.go (VO.ld 0 rfl rfl rfl rfl ?_)))
    exact VC.ret (Ret.tmp2 2 3 rfl rfl rfl Ent.refl ⟨by rw [linOk, decide_eq_false h1]; rfl, rfl⟩)
  · have hck : l.length ≤ 8 ∧ opsOk l = true := by
      have h2 := h1
      unfold checkM at h2
      split at h2
      · omega
      split at h2
      · exact ⟨by omega, by assumption⟩
      · omega
    (repeat (first | refine VC.seq ?_ | refine VC.region ?_ | refine VC.block ?_ | refine VC.label ?_ | refine VC.scope ?_ | refine VO.go (VO.nil ?_) | refine VO.go (VO.ld 0 rfl rfl rfl rfl ?_)))
    refine VO.go (VO.call (Lc := []) (fun Fr w hF hs _ => blook_spec Fr w (h.of hF hs) hck.1 hck.2 (TabF.st rfl hT hF hs)) rfl rfl ?_)
    rintro _ _ (⟨ho, rfl, rfl⟩ | ⟨o, a', cap', ho, rfl, hc', rfl⟩)
    · (repeat (first | refine VC.seq ?_ | refine VC.region ?_ | refine VC.block ?_ | refine VC.label ?_ | refine VC.scope ?_ | refine VO.go (VO.nil ?_) | refine VO.go (VO.ld 0 rfl rfl rfl rfl ?_)))
      exact VC.ret (Ret.tmp2 2 3 rfl rfl rfl Imp.nil.ent ⟨by rw [linOk, ho, h1]; rfl, rfl⟩)
    · (repeat (first | refine VC.seq ?_ | refine VC.region ?_ | refine VC.block ?_ | refine VC.label ?_ | refine VC.scope ?_ | refine VO.go (VO.nil ?_) | refine VO.go (VO.ld 0 rfl rfl rfl rfl ?_)))
      exact VC.ret (Ret.tmp2 2 3 rfl rfl rfl Imp.nil.ent ⟨by rw [linOk, ho, h1]; rfl, rfl⟩)

/-- What Order tells. -/
def ordOut (l : List RecM) : Option (List Nat) := if checkM l = 0 then orderM l else none
theorem ordOut_lin (l : List RecM) : linOk l = (ordOut l).isSome := by
  unfold linOk ordOut
  by_cases h : checkM l = 0 <;> simp [h]
set_option maxRecDepth 100000 in
theorem order_spec (Fr : Nat → Prop) (w : World) {a : Option Addr} {cap : Nat} {l : List RecM} (h : RecsIn Fr w a l) (hl : l.length ≤ 9223372036854775807) (hT : TabF Fr w) :
    Tri Tryd.prog 10 [.slice a l.length cap] Fr w [] (fun v L => (ordOut l = none ∧ v = .tuple #[.slice none 0 0, .bool false] ∧ L = []) ∨
      ∃ o a' cap', ordOut l = some o ∧ v = .tuple #[.slice a' o.length cap', .bool true] ∧ o.length ≤ cap' ∧ L = [slH 3 1 a' o.length cap' (ordC o)]) := by
  refine Tri.of 11 Tryd.func10 rfl (by kernel_rfl) tabOk rfl rfl ?_
  (repeat (first | refine VC.seq ?_ | refine VC.region ?_ | refine VC.block ?_ | refine VC.label ?_ | refine VC.scope ?_ | refine VO.go (VO.nil ?_) | refine VO.go (VO.ld 0 rfl rfl rfl rfl ?_)))
  refine VO.go (VO.callV' (fun Fr w hF hs _ => bcheck_spec Fr w (h.of hF hs) hl) rfl ?_)
  (repeat (first | refine VC.seq ?_ | refine VC.region ?_ | refine VC.block ?_ | refine VC.label ?_ | refine VC.scope ?_ | refine VO.go (VO.nil ?_) | refine VO.go (VO.ld 0 rfl rfl rfl rfl ?_)))
  refine VC.condNE rfl (fun h1 => ?_) (fun h1 => VC.skip ?_)
  · (repeat (first | refine VC.seq ?_ | refine VC.region ?_ | refine VC.block ?_ | refine VC.label ?_ | refine VC.scope ?_ | refine VO.go (VO.nil ?_) | refine VO.go (VO.ld 0 rfl rfl rfl rfl ?_)))
    exact VC.ret (Ret.tmp2 2 3 rfl rfl rfl Ent.refl (.inl ⟨by rw [ordOut, if_neg h1], rfl, rfl⟩))
  · have hck : l.length ≤ 8 ∧ opsOk l = true := by
      have h2 := h1
      unfold checkM at h2
      split at h2
      · omega
      split at h2
      · exact ⟨by omega, by assumption⟩
      · omega
    (repeat (first | refine VC.seq ?_ | refine VC.region ?_ | refine VC.block ?_ | refine VC.label ?_ | refine VC.scope ?_ | refine VO.go (VO.nil ?_) | refine VO.go (VO.ld 0 rfl rfl rfl rfl ?_)))
    refine VO.go (VO.call (Lc := []) (fun Fr w hF hs _ => blook_spec Fr w (h.of hF hs) hck.1 hck.2 (TabF.st rfl hT hF hs)) rfl rfl ?_)
    rintro _ _ (⟨ho, rfl, rfl⟩ | ⟨o, a', cap', ho, rfl, hc', rfl⟩)
    · (repeat (first | refine VC.seq ?_ | refine VC.region ?_ | refine VC.block ?_ | refine VC.label ?_ | refine VC.scope ?_ | refine VO.go (VO.nil ?_) | refine VO.go (VO.ld 0 rfl rfl rfl rfl ?_)))
      exact VC.ret (Ret.tmp2 2 3 rfl rfl rfl Imp.nil.ent (.inl ⟨by rw [ordOut, if_pos h1, ho], rfl, rfl⟩))
    · (repeat (first | refine VC.seq ?_ | refine VC.region ?_ | refine VC.block ?_ | refine VC.label ?_ | refine VC.scope ?_ | refine VO.go (VO.nil ?_) | refine VO.go (VO.ld 0 rfl rfl rfl rfl ?_)))
      exact VC.ret (Ret.tmp2 2 3 rfl rfl rfl Ent.refl (.inr ⟨o, a', cap', by rw [ordOut, if_pos h1, ho], rfl, hc', rfl⟩))
end Go.Proofs.YthabecjplpomhaaDoor.Br
