/- Layer 33's reference: reads, the check, who may come next. No condition. -/
import Derived.Test.YthabecjplpomhaaDoorBrM
import Derived.Test.YthabecjplpomhaaDoorRef09
import Derived.Test.YthabecjplpomhaaDoorVgY
namespace Go.Proofs.YthabecjplpomhaaDoor.Br
open Go Go.Proofs.YthabecjplpomhaaDoor.Vg Go.Proofs.YthabecjplpomhaaDoor.T Go.Proofs.YthabecjplpomhaaDoor.Api Go.Proofs.YthabecjplpomhaaDoor.Kv Go.Proofs.YthabecjplpomhaaDoor.LibC
set_option linter.unusedSimpArgs false
set_option linter.unusedVariables false
attribute [local irreducible] VO VC VA

set_option maxRecDepth 100000 in
theorem rreads_spec (Fr : Nat → Prop) (w : World) (o : OpM) : Tri Tryd.prog 19 [.agg o.cells.toArray] Fr w [] (fun v L => v = .bool (reads o) ∧ L = []) := by
  refine Tri.of 11 Tryd.func19 rfl (by kernel_rfl) tabOk rfl rfl ?_
  refine VC.seq (VC.region (VO.go (VO.boxA (vs := o.cells) rfl (fun b => VO.go (VO.nil ?_)))))
  (repeat (first | refine VC.seq ?_ | refine VC.region ?_ | refine VC.block ?_ | refine VC.label ?_ | refine VC.scope ?_ | refine VO.go (VO.nil ?_) | refine VO.go (VO.ld 0 rfl rfl rfl rfl ?_)))
  refine VO.go (VO.split 6 rfl rfl (fun h1 => ?_) (fun h1 => ?_))
  · have h1 : o.kind = 1 := eq_of_beq h1
    refine VO.go (VO.ldA 0 o.cells rfl rfl rfl rfl ?_)
    refine VO.go (VO.callV (fun Fr w => rcheck_spec Fr w o) rfl ?_)
    (repeat (first | refine VC.seq ?_ | refine VC.region ?_ | refine VC.block ?_ | refine VC.label ?_ | refine VC.scope ?_ | refine VO.go (VO.nil ?_) | refine VO.go (VO.ld 0 rfl rfl rfl rfl ?_)))
    exact VC.ret (Ret.bool 2 rfl rfl (by simp [h1, reads]; rfl) Imp.nil.ent ⟨rfl, rfl⟩)
  · have h1 : o.kind ≠ 1 := ne_of_beq_false h1
    (repeat (first | refine VC.seq ?_ | refine VC.region ?_ | refine VC.block ?_ | refine VC.label ?_ | refine VC.scope ?_ | refine VO.go (VO.nil ?_) | refine VO.go (VO.ld 0 rfl rfl rfl rfl ?_)))
    exact VC.ret (Ret.bool 2 rfl rfl (by simp [h1, reads]) Imp.nil.ent ⟨rfl, rfl⟩)

set_option maxRecDepth 100000 in
theorem rfcheck_spec (Fr : Nat → Prop) (w : World) {a : Option Addr} {cap : Nat} {l : List RecM} (h : RecsIn Fr w a l) (hl : l.length ≤ 9223372036854775807) :
    Tri Tryd.prog 8 [.slice a l.length cap] Fr w [] (fun v L => v = .int .i64 (checkM l) ∧ L = []) := by
  refine Tri.of 20 Tryd.func8 rfl (by kernel_rfl) tabOk rfl rfl ?_
  (repeat (first | refine VC.seq ?_ | refine VC.region ?_ | refine VC.block ?_ | refine VC.label ?_ | refine VC.scope ?_ | refine VO.go (VO.nil ?_) | refine VO.go (VO.ld 0 rfl rfl rfl rfl ?_)))
  refine VC.condP rfl (fun h1 => ?_) (fun h1 => VC.skip ?_)
  · (repeat (first | refine VC.seq ?_ | refine VC.region ?_ | refine VC.block ?_ | refine VC.label ?_ | refine VC.scope ?_ | refine VO.go (VO.nil ?_) | refine VO.go (VO.ld 0 rfl rfl rfl rfl ?_)))
    exact VC.ret (Ret.int 2 rfl rfl (by rw [checkM, if_pos (by omega)]) Ent.refl ⟨rfl, rfl⟩)
  (repeat (first | refine VC.seq ?_ | refine VC.region ?_ | refine VC.block ?_ | refine VC.label ?_ | refine VC.scope ?_ | refine VO.go (VO.nil ?_) | refine VO.go (VO.ld 0 rfl rfl rfl rfl ?_)))
  refine VC.loop (σ := Nat) (fun j => [(0, .slice a l.length cap), (3, .int .i64 j)]) (fun _ => []) (fun j => j ≤ l.length ∧ ∀ r ∈ l.take j, opCheck r.op = 0) (fun j => l.length - j) 0
    ⟨Nat.zero_le _, fun r hr => by simp at hr⟩ (Sub.cons rfl (Sub.cons rfl (Sub.nil _))) Ent.refl ?_
  rintro j ⟨hj, hall⟩
  (repeat (first | refine VC.seq ?_ | refine VC.region ?_ | refine VC.block ?_ | refine VC.label ?_ | refine VC.scope ?_ | refine VO.go (VO.nil ?_) | refine VO.go (VO.ld 0 rfl rfl rfl rfl ?_)))
  refine VC.condP rfl (fun h2 => VC.skip ?_) (fun h2 => VC.exit ?_)
  · have hj2 : j < l.length := by omega
    obtain ⟨fb, fo, rfl, ra, rc, rs⟩ := RwIn.rd3 (X := ⟨Tryd.prog, tab, tabOk, 20, Fr, w⟩) h (at_get hj2)
    (repeat (first | refine VC.seq ?_ | refine VC.region ?_ | refine VC.block ?_ | refine VC.label ?_ | refine VC.scope ?_ | refine VO.go (VO.nil ?_) | refine VO.go (VO.ld 0 rfl rfl rfl rfl ?_)))
    refine VO.go (VO.light (light_idx j rfl rfl rfl rfl rfl rfl hj2) ?_)
    (repeat (first | refine VC.seq ?_ | refine VC.region ?_ | refine VC.block ?_ | refine VC.label ?_ | refine VC.scope ?_ | refine VO.go (VO.nil ?_) | refine VO.go (VO.ld 0 rfl rfl rfl rfl ?_)))
    refine VO.go (VO.load rfl rfl (rs _ _ 2 (at_ l j).op.cells rfl rfl rfl) ?_)
    refine VO.go (VO.callV (fun Fr w => rcheck_spec Fr w (at_ l j).op) rfl ?_)
    (repeat (first | refine VC.seq ?_ | refine VC.region ?_ | refine VC.block ?_ | refine VC.label ?_ | refine VC.scope ?_ | refine VO.go (VO.nil ?_) | refine VO.go (VO.ld 0 rfl rfl rfl rfl ?_)))
    refine VC.condNE rfl (fun h3 => ?_) (fun h3 => VC.skip ?_)
    · (repeat (first | refine VC.seq ?_ | refine VC.region ?_ | refine VC.block ?_ | refine VC.label ?_ | refine VC.scope ?_ | refine VO.go (VO.nil ?_) | refine VO.go (VO.ld 0 rfl rfl rfl rfl ?_)))
      refine VC.ret (Ret.int 2 rfl rfl ?_ Imp.nil.ent ⟨rfl, rfl⟩)
      have : opsOk l = false := by
        rw [Bool.eq_false_iff]
        exact fun hc => h3 (opsOk_all hc _ (List.mem_of_getElem? (at_get hj2)))
      rw [checkM, if_neg (by omega), this]; simp
    · (repeat (first | refine VC.seq ?_ | refine VC.region ?_ | refine VC.block ?_ | refine VC.label ?_ | refine VC.scope ?_ | refine VO.go (VO.nil ?_) | refine VO.go (VO.ld 0 rfl rfl rfl rfl ?_)))
      refine VO.go (VO.add rfl rfl (by omega) (by omega) ?_)
      (repeat (first | refine VC.seq ?_ | refine VC.region ?_ | refine VC.block ?_ | refine VC.label ?_ | refine VC.scope ?_ | refine VO.go (VO.nil ?_) | refine VO.go (VO.ld 0 rfl rfl rfl rfl ?_)))
      refine ⟨j + 1, ⟨hj2, fun r hr => ?_⟩, by dsimp only; omega, Sub.cons rfl (Sub.cons rfl (Sub.nil _)), Imp.nil.ent⟩
      rw [List.take_add_one, at_get hj2] at hr
      rcases List.mem_append.1 hr with hr | hr
      · exact hall r hr
      · simp at hr; rw [hr]; exact h3
  · obtain rfl : j = l.length := by omega
    (repeat (first | refine VC.seq ?_ | refine VC.region ?_ | refine VC.block ?_ | refine VC.label ?_ | refine VC.scope ?_ | refine VO.go (VO.nil ?_) | refine VO.go (VO.ld 0 rfl rfl rfl rfl ?_)))
    refine VC.ret (Ret.int 2 rfl rfl ?_ Ent.refl ⟨rfl, rfl⟩)
    rw [List.take_length] at hall
    have : opsOk l = true := List.all_eq_true.2 fun r hr => decide_eq_true (hall r hr)
    rw [checkM, if_neg (by omega), this]; simp

def iC (x : Int) : List Value := [.int .i64 x]
def stR (st : List Nat) : List Int := st.map fun (i : Nat) => (i : Int)
theorem stR_len (st : List Nat) : (stR st).length = st.length := by simp [stR]
theorem stR_at {st : List Nat} {i k : Nat} (h : st[i]? = some k) : (stR st)[i]? = some (k : Int) := by simp [stR, h]
theorem stR_snoc (st : List Nat) (i : Nat) : stR (st ++ [i]) = stR st ++ [(i : Int)] := by simp [stR]
abbrev StIn (Fr : Nat → Prop) (w : World) (a : Option Addr) (st : List Nat) : Prop := RwIn iC 1 Fr w a (stR st)

set_option maxRecDepth 100000 in
theorem has_spec (Fr : Nat → Prop) (w : World) {a : Option Addr} {cap : Nat} {st : List Nat} (h : StIn Fr w a st) (hl : st.length ≤ 100) (i : Nat) :
    Tri Tryd.prog 16 [.slice a st.length cap, .int .i64 i] Fr w [] (fun v L => v = .bool (st.contains i) ∧ L = []) := by
  refine Tri.of 18 Tryd.func16 rfl (by kernel_rfl) tabOk rfl rfl ?_
  (repeat (first | refine VC.seq ?_ | refine VC.region ?_ | refine VC.block ?_ | refine VC.label ?_ | refine VC.scope ?_ | refine VO.go (VO.nil ?_) | refine VO.go (VO.ld 0 rfl rfl rfl rfl ?_)))
  refine VC.loop (σ := Nat) (fun j => [(0, .slice a st.length cap), (1, .int .i64 i), (5, .int .i64 j)]) (fun _ => []) (fun j => j ≤ st.length ∧ i ∉ st.take j) (fun j => st.length - j) 0
    ⟨Nat.zero_le _, by simp⟩ (Sub.cons rfl (Sub.cons rfl (Sub.cons rfl (Sub.nil _)))) Ent.refl ?_
  rintro j ⟨hj, hall⟩
  (repeat (first | refine VC.seq ?_ | refine VC.region ?_ | refine VC.block ?_ | refine VC.label ?_ | refine VC.scope ?_ | refine VO.go (VO.nil ?_) | refine VO.go (VO.ld 0 rfl rfl rfl rfl ?_)))
  refine VC.condP rfl (fun h2 => VC.skip ?_) (fun h2 => VC.exit ?_)
  · have hj2 : j < st.length := by omega
    obtain ⟨k, hk⟩ : ∃ k, st[j]? = some k := ⟨_, List.getElem?_eq_getElem hj2⟩
    obtain ⟨fb, fo, rfl, ra, rc, rs⟩ := RwIn.rd3 (X := ⟨Tryd.prog, tab, tabOk, 18, Fr, w⟩) h (stR_at hk)
    (repeat (first | refine VC.seq ?_ | refine VC.region ?_ | refine VC.block ?_ | refine VC.label ?_ | refine VC.scope ?_ | refine VO.go (VO.nil ?_) | refine VO.go (VO.ld 0 rfl rfl rfl rfl ?_)))
    refine VO.go (VO.light (light_idx j rfl rfl rfl rfl rfl rfl hj2) ?_)
    refine VO.go (VO.load rfl rfl (rc _ _ 0 _ rfl rfl) ?_)
    (repeat (first | refine VC.seq ?_ | refine VC.region ?_ | refine VC.block ?_ | refine VC.label ?_ | refine VC.scope ?_ | refine VO.go (VO.nil ?_) | refine VO.go (VO.ld 0 rfl rfl rfl rfl ?_)))
    refine VC.condE rfl (fun h3 => ?_) (fun h3 => VC.skip ?_)
    · have : k = i := by omega
      subst this
      (repeat (first | refine VC.seq ?_ | refine VC.region ?_ | refine VC.block ?_ | refine VC.label ?_ | refine VC.scope ?_ | refine VO.go (VO.nil ?_) | refine VO.go (VO.ld 0 rfl rfl rfl rfl ?_)))
      exact VC.ret (Ret.bool 4 rfl rfl (by simpa using (List.mem_of_getElem? hk)) Ent.refl ⟨rfl, rfl⟩)
    · (repeat (first | refine VC.seq ?_ | refine VC.region ?_ | refine VC.block ?_ | refine VC.label ?_ | refine VC.scope ?_ | refine VO.go (VO.nil ?_) | refine VO.go (VO.ld 0 rfl rfl rfl rfl ?_)))
      refine VO.go (VO.add rfl rfl (by omega) (by omega) ?_)
      (repeat (first | refine VC.seq ?_ | refine VC.region ?_ | refine VC.block ?_ | refine VC.label ?_ | refine VC.scope ?_ | refine VO.go (VO.nil ?_) | refine VO.go (VO.ld 0 rfl rfl rfl rfl ?_)))
      refine ⟨j + 1, ⟨hj2, fun hm => ?_⟩, by dsimp only; omega, Sub.cons rfl (Sub.cons rfl (Sub.cons rfl (Sub.nil _))), Ent.refl⟩
      rw [List.take_add_one, hk] at hm
      rcases List.mem_append.1 hm with hm | hm
      · exact hall hm
      · simp at hm; omega
  · obtain rfl : j = st.length := by omega
    rw [List.take_length] at hall
    (repeat (first | refine VC.seq ?_ | refine VC.region ?_ | refine VC.block ?_ | refine VC.label ?_ | refine VC.scope ?_ | refine VO.go (VO.nil ?_) | refine VO.go (VO.ld 0 rfl rfl rfl rfl ?_)))
    exact VC.ret (Ret.bool 4 rfl rfl (by simpa using hall) Ent.refl ⟨rfl, rfl⟩)

set_option maxRecDepth 100000 in
set_option maxHeartbeats 1000000 in
theorem next_spec (Fr : Nat → Prop) (w : World) {a sa : Option Addr} {cap sc : Nat} {l : List RecM} {st : List Nat} (h : RecsIn Fr w a l) (hs : StIn Fr w sa st) (hl : l.length ≤ 100) (hsl : st.length ≤ 100) (i : Nat) (hi : i < l.length) :
    Tri Tryd.prog 17 [.slice a l.length cap, .slice sa st.length sc, .int .i64 i] Fr w [] (fun v L => v = .bool (may l st i) ∧ L = []) := by
  obtain ⟨fb, fo, rfl, ra, rc, rs⟩ := RwIn.rd3 (X := ⟨Tryd.prog, tab, tabOk, 76, Fr, w⟩) h (at_get hi)
  refine Tri.of 76 Tryd.func17 rfl (by kernel_rfl) tabOk rfl rfl ?_
  (repeat (first | refine VC.seq ?_ | refine VC.region ?_ | refine VC.block ?_ | refine VC.label ?_ | refine VC.scope ?_ | refine VO.go (VO.nil ?_) | refine VO.go (VO.ld 0 rfl rfl rfl rfl ?_)))
  refine VO.go (VO.light (light_idx i rfl rfl rfl rfl rfl rfl hi) ?_)
  (repeat (first | refine VC.seq ?_ | refine VC.region ?_ | refine VC.block ?_ | refine VC.label ?_ | refine VC.scope ?_ | refine VO.go (VO.nil ?_) | refine VO.go (VO.ld 0 rfl rfl rfl rfl ?_)))
  refine VO.go (VO.load rfl rfl (rc _ _ 8 _ rfl rfl) ?_)
  (repeat (first | refine VC.seq ?_ | refine VC.region ?_ | refine VC.block ?_ | refine VC.label ?_ | refine VC.scope ?_ | refine VO.go (VO.nil ?_) | refine VO.go (VO.ld 0 rfl rfl rfl rfl ?_)))
  refine VO.go (VO.light (light_idx i rfl rfl rfl rfl rfl rfl hi) ?_)
  (repeat (first | refine VC.seq ?_ | refine VC.region ?_ | refine VC.block ?_ | refine VC.label ?_ | refine VC.scope ?_ | refine VO.go (VO.nil ?_) | refine VO.go (VO.ld 0 rfl rfl rfl rfl ?_)))
  refine VO.go (VO.load rfl rfl (rs _ _ 2 (at_ l i).op.cells rfl rfl rfl) ?_)
  refine VO.go (VO.callV (fun Fr w => rreads_spec Fr w (at_ l i).op) rfl ?_)
  refine VO.go (VO.nil ?_)
  refine VC.seq ?_
  refine VC.meet (σ := Bool) (fun t => [(0, .slice (some ⟨fb, fo, none⟩) l.length cap), (1, .slice sa st.length sc), (2, .int .i64 i), (35, .bool t)]) (fun _ => []) (fun t => t = !(!st.contains i && (at_ l i).stand)) ?_ ?_
  · (repeat (first | refine VC.seq ?_ | refine VC.region ?_ | refine VC.block ?_ | refine VC.label ?_ | refine VC.scope ?_ | refine VO.go (VO.nil ?_) | refine VO.go (VO.ld 0 rfl rfl rfl rfl ?_)))
    refine VO.go (VO.callV' (fun Fr w hF hw _ => has_spec Fr w (hs.of hF hw) hsl i) rfl ?_)
    (repeat (first | refine VC.seq ?_ | refine VC.region ?_ | refine VC.block ?_ | refine VC.label ?_ | refine VC.scope ?_ | refine VO.go (VO.nil ?_) | refine VO.go (VO.ld 0 rfl rfl rfl rfl ?_)))
    refine VO.go (VO.split 25 rfl rfl (fun h1 => ?_) (fun h1 => ?_))
    · (repeat (first | refine VC.seq ?_ | refine VC.region ?_ | refine VC.block ?_ | refine VC.label ?_ | refine VC.scope ?_ | refine VO.go (VO.nil ?_) | refine VO.go (VO.ld 0 rfl rfl rfl rfl ?_) | refine VO.go (VO.offU rfl rfl rfl ?_)))
      exact ⟨_, by rw [h1]; rfl, Sub.cons rfl (Sub.cons rfl (Sub.cons rfl (Sub.cons rfl (Sub.nil _)))), Ent.refl⟩
    · (repeat (first | refine VC.seq ?_ | refine VC.region ?_ | refine VC.block ?_ | refine VC.label ?_ | refine VC.scope ?_ | refine VO.go (VO.nil ?_) | refine VO.go (VO.ld 0 rfl rfl rfl rfl ?_) | refine VO.go (VO.offU rfl rfl rfl ?_)))
      refine VO.go (VO.split 28 rfl rfl (fun h2 => ?_) (fun h2 => ?_))
      · (repeat (first | refine VC.seq ?_ | refine VC.region ?_ | refine VC.block ?_ | refine VC.label ?_ | refine VC.scope ?_ | refine VO.go (VO.nil ?_) | refine VO.go (VO.ld 0 rfl rfl rfl rfl ?_) | refine VO.go (VO.offU rfl rfl rfl ?_)))
        refine VO.go (VO.split 30 rfl rfl (fun h3 => ?_) (fun h3 => ?_))
        · (repeat (first | refine VC.seq ?_ | refine VC.region ?_ | refine VC.block ?_ | refine VC.label ?_ | refine VC.scope ?_ | refine VO.go (VO.nil ?_) | refine VO.go (VO.ld 0 rfl rfl rfl rfl ?_) | refine VO.go (VO.offU rfl rfl rfl ?_)))
          exact ⟨_, by have h2' : (at_ l i).done = false := by simpa [bne, RecM.done] using h2
                       rw [RecM.stand, h2', h1, h3]; simp [bne], Sub.cons rfl (Sub.cons rfl (Sub.cons rfl (Sub.cons rfl (Sub.nil _)))), Ent.refl⟩
        · (repeat (first | refine VC.seq ?_ | refine VC.region ?_ | refine VC.block ?_ | refine VC.label ?_ | refine VC.scope ?_ | refine VO.go (VO.nil ?_) | refine VO.go (VO.ld 0 rfl rfl rfl rfl ?_) | refine VO.go (VO.offU rfl rfl rfl ?_)))
          exact ⟨_, by have h2' : (at_ l i).done = false := by simpa [bne, RecM.done] using h2
                       rw [RecM.stand, h2', h1, h3]; simp [bne], Sub.cons rfl (Sub.cons rfl (Sub.cons rfl (Sub.cons rfl (Sub.nil _)))), Ent.refl⟩
      · (repeat (first | refine VC.seq ?_ | refine VC.region ?_ | refine VC.block ?_ | refine VC.label ?_ | refine VC.scope ?_ | refine VO.go (VO.nil ?_) | refine VO.go (VO.ld 0 rfl rfl rfl rfl ?_) | refine VO.go (VO.offU rfl rfl rfl ?_)))
        exact ⟨_, by have h2' : (at_ l i).done = true := by simpa [bne, RecM.done] using h2
                     rw [RecM.stand, h2', h1]; rfl, Sub.cons rfl (Sub.cons rfl (Sub.cons rfl (Sub.cons rfl (Sub.nil _)))), Ent.refl⟩
  intro t ht
  refine VC.cond rfl (fun h1 => ?_) (fun h1 => VC.skip ?_)
  · (repeat (first | refine VC.seq ?_ | refine VC.region ?_ | refine VC.block ?_ | refine VC.label ?_ | refine VC.scope ?_ | refine VO.go (VO.nil ?_) | refine VO.go (VO.ld 0 rfl rfl rfl rfl ?_)))
    exact VC.ret (Ret.bool 6 rfl rfl (by rw [may_eq, show (!st.contains i && (at_ l i).stand) = false by rw [h1] at ht; cases hh : (!st.contains i && (at_ l i).stand) with | false => rfl | true => rw [hh] at ht; cases ht]; rfl) Ent.refl ⟨rfl, rfl⟩)
  (repeat (first | refine VC.seq ?_ | refine VC.region ?_ | refine VC.block ?_ | refine VC.label ?_ | refine VC.scope ?_ | refine VO.go (VO.nil ?_) | refine VO.go (VO.ld 0 rfl rfl rfl rfl ?_)))
  refine VC.loop (σ := Nat) (fun j => [(0, .slice (some ⟨fb, fo, none⟩) l.length cap), (1, .slice sa st.length sc), (2, .int .i64 i), (9, .int .i64 j)]) (fun _ => []) (fun j => j ≤ l.length ∧ ∀ k, k < j → blocks l st i k = false) (fun j => l.length - j) 0
    ⟨Nat.zero_le _, fun k hk => by omega⟩ (Sub.cons rfl (Sub.cons rfl (Sub.cons rfl (Sub.cons rfl (Sub.nil _))))) Ent.refl ?_
  rintro j ⟨hj, hall⟩
  (repeat (first | refine VC.seq ?_ | refine VC.region ?_ | refine VC.block ?_ | refine VC.label ?_ | refine VC.scope ?_ | refine VO.go (VO.nil ?_) | refine VO.go (VO.ld 0 rfl rfl rfl rfl ?_)))
  refine VC.condP rfl (fun h2 => VC.skip ?_) (fun h2 => VC.exit ?_)
  · have hj2 : j < l.length := by omega
    obtain ⟨fb2, fo2, e2, ra2, rc2, rs2⟩ := RwIn.rd3 (X := ⟨Tryd.prog, tab, tabOk, 76, Fr, w⟩) h (at_get hj2)
    cases e2
    refine VC.seq (VC.block (VC.seq ?_))
    refine VC.meetS (σ := Bool) (fun t => [(0, .slice (some ⟨fb, fo, none⟩) l.length cap), (1, .slice sa st.length sc), (2, .int .i64 i), (9, .int .i64 j), (75, .bool t)]) (fun _ => []) (fun t => t = blocks l st i j) ?_ ?_
    · refine VC.draw (ts 0 2 (.only 2 (ts 3 31 .nil))) (by kernel_rfl) (by decide +kernel) ?_
      (repeat (first | refine VA.go (VA.nil ?_) | refine VA.go (VA.ld 0 rfl rfl rfl rfl rfl ?_) | refine VA.go (VA.offU rfl rfl rfl rfl ?_)))
      refine VA.go (VA.callR (fun Fr w hF hw _ => has_spec Fr w (hs.of hF hw) hsl j) rfl rfl (by (try refine Pd.st ?_); (repeat (first | exact Pd.nil | exact Pd.fnil | refine Pd.inner ?_ | refine Pd.skip (by decide +kernel) ?_ | refine Pd.fcons (RdL.one 0 rfl rfl) ?_ | refine Pd.fcons (RdL.one 1 rfl rfl) ?_ | refine Pd.fcons (RdL.many 0 rfl rfl) ?_ | refine Pd.fcons (RdL.many 1 rfl rfl) ?_ | refine Pd.cons (RdL.one 0 rfl rfl) ?_ | refine Pd.cons (RdL.one 1 rfl rfl) ?_ | refine Pd.cons (RdL.many 0 rfl rfl) ?_ | refine Pd.cons (RdL.many 1 rfl rfl) ?_ | refine Pd.fconsM (MpL.one 0 rfl) ?_ | refine Pd.fconsM (MpL.one 1 rfl) ?_ | refine Pd.consM (MpL.one 0 rfl) ?_ | refine Pd.consM (MpL.one 1 rfl) ?_))) ?_)
      (repeat (first | refine VA.go (VA.nil ?_) | refine VA.go (VA.ld 0 rfl rfl rfl rfl rfl ?_) | refine VA.go (VA.ld 1 rfl rfl rfl rfl rfl ?_) | refine VA.go (VA.offU rfl rfl rfl rfl ?_)))
      refine VA.go (VA.split 46 rfl rfl (fun h3 => ?_) (fun h3 => ?_))
      · (repeat (first | refine VA.go (VA.nil ?_) | refine VA.go (VA.ld 0 rfl rfl rfl rfl rfl ?_) | refine VA.go (VA.ld 1 rfl rfl rfl rfl rfl ?_) | refine VA.go (VA.offU rfl rfl rfl rfl ?_)))
        refine VA.go (VA.light rfl (light_idx j rfl rfl rfl rfl rfl rfl hj2) ?_)
        (repeat (first | refine VA.go (VA.nil ?_) | refine VA.go (VA.ld 0 rfl rfl rfl rfl rfl ?_) | refine VA.go (VA.ld 1 rfl rfl rfl rfl rfl ?_) | refine VA.go (VA.offU rfl rfl rfl rfl ?_)))
        refine VA.go (VA.load rfl rfl rfl (rc2 _ _ 8 _ rfl rfl) ?_)
        (repeat (first | refine VA.go (VA.nil ?_) | refine VA.go (VA.ld 0 rfl rfl rfl rfl rfl ?_) | refine VA.go (VA.ld 1 rfl rfl rfl rfl rfl ?_) | refine VA.go (VA.offU rfl rfl rfl rfl ?_)))
        refine VA.go (VA.split 55 rfl rfl (fun h4 => ?_) (fun h4 => ?_))
        · (repeat (first | refine VA.go (VA.nil ?_) | refine VA.go (VA.ld 0 rfl rfl rfl rfl rfl ?_) | refine VA.go (VA.ld 1 rfl rfl rfl rfl rfl ?_) | refine VA.go (VA.offU rfl rfl rfl rfl ?_)))
          refine VA.go (VA.light rfl (light_idx j rfl rfl rfl rfl rfl rfl hj2) ?_)
          (repeat (first | refine VA.go (VA.nil ?_) | refine VA.go (VA.ld 0 rfl rfl rfl rfl rfl ?_) | refine VA.go (VA.ld 1 rfl rfl rfl rfl rfl ?_) | refine VA.go (VA.offU rfl rfl rfl rfl ?_)))
          refine VA.go (VA.load rfl rfl rfl (rc2 _ _ 7 _ rfl rfl) ?_)
          (repeat (first | refine VA.go (VA.nil ?_) | refine VA.go (VA.ld 0 rfl rfl rfl rfl rfl ?_) | refine VA.go (VA.ld 1 rfl rfl rfl rfl rfl ?_) | refine VA.go (VA.offU rfl rfl rfl rfl ?_)))
          refine VA.go (VA.split 63 rfl rfl (fun h5 => ?_) (fun h5 => ?_))
          · (repeat (first | refine VA.go (VA.nil ?_) | refine VA.go (VA.ld 0 rfl rfl rfl rfl rfl ?_) | refine VA.go (VA.ld 1 rfl rfl rfl rfl rfl ?_) | refine VA.go (VA.offU rfl rfl rfl rfl ?_)))
            refine VA.go (VA.light rfl (light_idx j rfl rfl rfl rfl rfl rfl hj2) ?_)
            (repeat (first | refine VA.go (VA.nil ?_) | refine VA.go (VA.ld 0 rfl rfl rfl rfl rfl ?_) | refine VA.go (VA.ld 1 rfl rfl rfl rfl rfl ?_) | refine VA.go (VA.offU rfl rfl rfl rfl ?_)))
            refine VA.go (VA.load rfl rfl rfl (rc2 _ _ 7 _ rfl rfl) ?_)
            (repeat (first | refine VA.go (VA.nil ?_) | refine VA.go (VA.ld 0 rfl rfl rfl rfl rfl ?_) | refine VA.go (VA.ld 1 rfl rfl rfl rfl rfl ?_) | refine VA.go (VA.offU rfl rfl rfl rfl ?_)))
            refine VA.go (VA.light rfl (light_idx i rfl rfl rfl rfl rfl rfl hi) ?_)
            (repeat (first | refine VA.go (VA.nil ?_) | refine VA.go (VA.ld 0 rfl rfl rfl rfl rfl ?_) | refine VA.go (VA.ld 1 rfl rfl rfl rfl rfl ?_) | refine VA.go (VA.offU rfl rfl rfl rfl ?_)))
            refine VA.go (VA.load rfl rfl rfl (rc _ _ 6 _ rfl rfl) ?_)
            (repeat (first | refine VA.go (VA.nil ?_) | refine VA.go (VA.ld 0 rfl rfl rfl rfl rfl ?_) | refine VA.go (VA.ld 1 rfl rfl rfl rfl rfl ?_) | refine VA.go (VA.offU rfl rfl rfl rfl ?_)))
            exact ⟨_, by unfold blocks; rw [h3, show (at_ l j).done = true from h4]; have h5 := of_decide_eq_true h5; simp [h5], Sub.cons rfl (Sub.cons rfl (Sub.cons rfl (Sub.cons rfl (Sub.cons rfl (Sub.nil _))))), Ent.refl⟩
          · (repeat (first | refine VA.go (VA.nil ?_) | refine VA.go (VA.ld 0 rfl rfl rfl rfl rfl ?_) | refine VA.go (VA.ld 1 rfl rfl rfl rfl rfl ?_) | refine VA.go (VA.offU rfl rfl rfl rfl ?_)))
            exact ⟨_, by unfold blocks; have h5 := of_decide_eq_false h5; simp [h5], Sub.cons rfl (Sub.cons rfl (Sub.cons rfl (Sub.cons rfl (Sub.cons rfl (Sub.nil _))))), Ent.refl⟩
        · (repeat (first | refine VA.go (VA.nil ?_) | refine VA.go (VA.ld 0 rfl rfl rfl rfl rfl ?_) | refine VA.go (VA.ld 1 rfl rfl rfl rfl rfl ?_) | refine VA.go (VA.offU rfl rfl rfl rfl ?_)))
          refine VA.go (VA.yes 63 false rfl rfl ?_)
          (repeat (first | refine VA.go (VA.nil ?_) | refine VA.go (VA.ld 0 rfl rfl rfl rfl rfl ?_) | refine VA.go (VA.ld 1 rfl rfl rfl rfl rfl ?_) | refine VA.go (VA.offU rfl rfl rfl rfl ?_)))
          exact ⟨_, by unfold blocks; rw [show (at_ l j).done = false from h4]; simp, Sub.cons rfl (Sub.cons rfl (Sub.cons rfl (Sub.cons rfl (Sub.cons rfl (Sub.nil _))))), Ent.refl⟩
      · (repeat (first | refine VA.go (VA.nil ?_) | refine VA.go (VA.ld 0 rfl rfl rfl rfl rfl ?_) | refine VA.go (VA.ld 1 rfl rfl rfl rfl rfl ?_) | refine VA.go (VA.offU rfl rfl rfl rfl ?_)))
        refine VA.go (VA.yes 55 false rfl rfl ?_)
        (repeat (first | refine VA.go (VA.nil ?_) | refine VA.go (VA.ld 0 rfl rfl rfl rfl rfl ?_) | refine VA.go (VA.ld 1 rfl rfl rfl rfl rfl ?_) | refine VA.go (VA.offU rfl rfl rfl rfl ?_)))
        refine VA.go (VA.yes 63 false rfl rfl ?_)
        (repeat (first | refine VA.go (VA.nil ?_) | refine VA.go (VA.ld 0 rfl rfl rfl rfl rfl ?_) | refine VA.go (VA.ld 1 rfl rfl rfl rfl rfl ?_) | refine VA.go (VA.offU rfl rfl rfl rfl ?_)))
        exact ⟨_, by unfold blocks; rw [h3]; simp, Sub.cons rfl (Sub.cons rfl (Sub.cons rfl (Sub.cons rfl (Sub.cons rfl (Sub.nil _))))), Ent.refl⟩
    intro t ht
    refine VC.cond rfl (fun h6 => ?_) (fun h6 => VC.skip ?_)
    · (repeat (first | refine VC.seq ?_ | refine VC.region ?_ | refine VC.block ?_ | refine VC.label ?_ | refine VC.scope ?_ | refine VO.go (VO.nil ?_) | refine VO.go (VO.ld 0 rfl rfl rfl rfl ?_)))
      refine VC.ret (Ret.bool 6 rfl rfl ?_ Imp.nil.ent ⟨rfl, rfl⟩)
      symm
      rw [Bool.eq_false_iff, may_eq]
      intro hc
      rw [Bool.and_eq_true] at hc
      have := List.all_eq_true.1 hc.2 j (List.mem_range.2 hj2)
      rw [← ht, h6] at this
      cases this
    · (repeat (first | refine VC.seq ?_ | refine VC.region ?_ | refine VC.block ?_ | refine VC.label ?_ | refine VC.scope ?_ | refine VO.go (VO.nil ?_) | refine VO.go (VO.ld 0 rfl rfl rfl rfl ?_)))
      refine VO.go (VO.add rfl rfl (by omega) (by omega) ?_)
      (repeat (first | refine VC.seq ?_ | refine VC.region ?_ | refine VC.block ?_ | refine VC.label ?_ | refine VC.scope ?_ | refine VO.go (VO.nil ?_) | refine VO.go (VO.ld 0 rfl rfl rfl rfl ?_)))
      refine ⟨j + 1, ⟨hj2, fun k hk => ?_⟩, by dsimp only; omega, Sub.cons rfl (Sub.cons rfl (Sub.cons rfl (Sub.cons rfl (Sub.nil _)))), Imp.nil.ent⟩
      rcases Nat.lt_or_ge k j with h | h
      · exact hall k h
      · obtain rfl : k = j := by omega
        rw [← ht, h6]
  · (repeat (first | refine VC.seq ?_ | refine VC.region ?_ | refine VC.block ?_ | refine VC.label ?_ | refine VC.scope ?_ | refine VO.go (VO.nil ?_) | refine VO.go (VO.ld 0 rfl rfl rfl rfl ?_)))
    refine VC.ret (Ret.bool 6 rfl rfl ?_ Imp.nil.ent ⟨rfl, rfl⟩)
    have e : (!st.contains i && (at_ l i).stand) = true := by rw [h1] at ht; simpa using ht.symm
    rw [may_eq, e]
    symm
    refine List.all_eq_true.2 fun k hk => ?_
    rw [hall k (by have := List.mem_range.1 hk; omega)]; rfl
end Go.Proofs.YthabecjplpomhaaDoor.Br
