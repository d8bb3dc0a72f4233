/- MetersSee: whatever frames are seen, each answer, all counters, shares, and the table, are the document's. No condition but the table of powers of ten. -/
import Derived.Test.YtoinocihlfmnnaaDoorMSee
namespace Go.Proofs.YtoinocihlfmnnaaDoor.Met
open Go Go.Proofs.YtoinocihlfmnnaaDoor.Vg Go.Proofs.YtoinocihlfmnnaaDoor.T Go.Proofs.YtoinocihlfmnnaaDoor.Api Go.Proofs.YtoinocihlfmnnaaDoor.Cnt Go.Proofs.YtoinocihlfmnnaaDoor.LibC
set_option linter.unusedSimpArgs false
set_option linter.unusedVariables false
attribute [local irreducible] VO VC VA

/-- The meter behind so many frames. -/
def mi (c : Nat) (l : List FG) (i : Nat) : MM := seeAll (MM.new c) ((l.take i).map Prod.fst)
theorem mi_zero (c : Nat) (l : List FG) : mi c l 0 = MM.new c := rfl
theorem mi_next {c : Nat} {l : List FG} {i : Nat} {x : FG} (hx : l[i]? = some x) : mi c l (i + 1) = ((mi c l i).see x.1).1 := by
  unfold mi
  rw [List.take_add_one, hx, List.map_append]
  exact seeAll_one _ _ _
theorem mi_okB {c : Nat} (h1 : 1 ≤ c) (h2 : c ≤ 4) (l : List FG) (i : Nat) (hl : l.length ≤ 60) : OkB (mi c l i) 5760 := by
  have h := (OkB.new h1 h2).seeAll ((l.take i).map Prod.fst)
  refine ⟨h.c1, h.c4, h.len, fun j => ?_⟩
  have := h.low j
  have e : (((l.take i).map Prod.fst).length : Int) ≤ 60 := by simp only [List.length_map, List.length_take]; omega
  refine ⟨this.1, ?_⟩
  have h3 := this.2
  show (seeAll (MM.new c) _).at_ j ≤ 5760
  omega
theorem mi_c (c : Nat) (l : List FG) (i : Nat) : (mi c l i).c = c := by unfold mi; rw [seeAll_c]; rfl

structure SeeI (c : Nat) (l : List FG) (x : Nat × GL) : Prop where
  le : x.1 ≤ l.length
  ok : x.2.Ok fgc 29
  few : x.2.xs.length ≤ x.1
  cor : Cor (mi c l x.1) (x.2.xs.map Prod.fst)

set_option maxRecDepth 100000 in
set_option maxHeartbeats 1000000 in
theorem msee_spec (Fr : Nat → Prop) (w : World) (cl : Int) {a : Option Addr} {cap : Nat} {l : List FG} (h : FsIn Fr w a l) (hll : l.length ≤ 9223372036854775807) (hT : TabF Fr w) :
    Tri Tryd.prog 4 [.int .i64 cl, .slice a l.length cap] Fr w [] (fun v L => v = .bool true ∧ L = []) := by
  refine Tri.of 159 Tryd.func4 rfl (by kernel_rfl) tabOk rfl rfl ?_
  (repeat (first | refine VC.seq ?_ | refine VC.region ?_ | refine VC.block ?_ | refine VC.label ?_ | refine VC.scope ?_ | refine VO.go (VO.nil ?_) | refine VO.go (VO.ld 0 rfl rfl rfl rfl ?_)))
  refine VO.go (VO.callV' (fun Fr w hF hs _ => great_spec Fr w (h.of hF hs) hll 60) rfl ?_)
  (repeat (first | refine VC.seq ?_ | refine VC.region ?_ | refine VC.block ?_ | refine VC.label ?_ | refine VC.scope ?_ | refine VO.go (VO.nil ?_) | refine VO.go (VO.ld 0 rfl rfl rfl rfl ?_)))
  refine VC.cond rfl (fun _ => ?_) (fun hg => VC.skip ?_)
  · (repeat (first | refine VC.seq ?_ | refine VC.region ?_ | refine VC.block ?_ | refine VC.label ?_ | refine VC.scope ?_ | refine VO.go (VO.nil ?_) | refine VO.go (VO.ld 0 rfl rfl rfl rfl ?_)))
    refine VO.go (VO.callV' (fun Fr w hF hs _ => counted_spec Fr w (TabF.st rfl hT hF hs)) rfl ?_)
    (repeat (first | refine VC.seq ?_ | refine VC.region ?_ | refine VC.block ?_ | refine VC.label ?_ | refine VC.scope ?_ | refine VO.go (VO.nil ?_) | refine VO.go (VO.ld 0 rfl rfl rfl rfl ?_)))
    exact VC.ret (Ret.tmp 4 rfl rfl Imp.nil.ent ⟨rfl, rfl⟩)
  have hl60 : l.length ≤ 60 := by have := (great_no hg).1; simp only [List.length_map] at this; omega
  by_cases hcl : cl < 1 ∨ 4 < cl
  · (repeat (first | refine VC.seq ?_ | refine VC.region ?_ | refine VC.block ?_ | refine VC.label ?_ | refine VC.scope ?_ | refine VO.go (VO.nil ?_) | refine VO.go (VO.ld 0 rfl rfl rfl rfl ?_)))
    refine VO.go (VO.callV' (fun Fr w hF hs _ => new_bad Fr w cl hcl) rfl ?_)
    (repeat (first | refine VC.seq ?_ | refine VC.region ?_ | refine VC.block ?_ | refine VC.label ?_ | refine VC.scope ?_ | refine VO.go (VO.nil ?_) | refine VO.go (VO.ld 0 rfl rfl rfl rfl ?_)))
    refine VO.go (VO.split 30 rfl rfl (fun h1 => ?_) (fun h1 => ?_))
    · (repeat (first | refine VC.seq ?_ | refine VC.region ?_ | refine VC.block ?_ | refine VC.label ?_ | refine VC.scope ?_ | refine VO.go (VO.nil ?_) | refine VO.go (VO.ld 0 rfl rfl rfl rfl ?_)))
      refine VC.condT rfl ?_
      (repeat (first | refine VC.seq ?_ | refine VC.region ?_ | refine VC.block ?_ | refine VC.label ?_ | refine VC.scope ?_ | refine VO.go (VO.nil ?_) | refine VO.go (VO.ld 0 rfl rfl rfl rfl ?_)))
      refine VO.go (VO.yes 36 true rfl rfl ?_)
      (repeat (first | refine VC.seq ?_ | refine VC.region ?_ | refine VC.block ?_ | refine VC.label ?_ | refine VC.scope ?_ | refine VO.go (VO.nil ?_) | refine VO.go (VO.ld 0 rfl rfl rfl rfl ?_)))
      refine VO.go (VO.yes 40 true rfl rfl ?_)
      refine VO.go (VO.callV' (fun Fr w hF hs _ => counted_spec Fr w (TabF.st rfl hT hF hs)) rfl ?_)
      (repeat (first | refine VC.seq ?_ | refine VC.region ?_ | refine VC.block ?_ | refine VC.label ?_ | refine VC.scope ?_ | refine VO.go (VO.nil ?_) | refine VO.go (VO.ld 0 rfl rfl rfl rfl ?_)))
      exact VC.ret (Ret.tmp 4 rfl rfl Ent.refl ⟨rfl, rfl⟩)
    · have h1 := of_decide_eq_false h1
      (repeat (first | refine VC.seq ?_ | refine VC.region ?_ | refine VC.block ?_ | refine VC.label ?_ | refine VC.scope ?_ | refine VO.go (VO.nil ?_) | refine VO.go (VO.ld 0 rfl rfl rfl rfl ?_)))
      refine VC.condT (congrArg (fun b => some (Value.bool b)) (decide_eq_true (by omega))) ?_
      (repeat (first | refine VC.seq ?_ | refine VC.region ?_ | refine VC.block ?_ | refine VC.label ?_ | refine VC.scope ?_ | refine VO.go (VO.nil ?_) | refine VO.go (VO.ld 0 rfl rfl rfl rfl ?_)))
      refine VO.go (VO.yes 36 true rfl rfl ?_)
      (repeat (first | refine VC.seq ?_ | refine VC.region ?_ | refine VC.block ?_ | refine VC.label ?_ | refine VC.scope ?_ | refine VO.go (VO.nil ?_) | refine VO.go (VO.ld 0 rfl rfl rfl rfl ?_)))
      refine VO.go (VO.yes 40 true rfl rfl ?_)
      refine VO.go (VO.callV' (fun Fr w hF hs _ => counted_spec Fr w (TabF.st rfl hT hF hs)) rfl ?_)
      (repeat (first | refine VC.seq ?_ | refine VC.region ?_ | refine VC.block ?_ | refine VC.label ?_ | refine VC.scope ?_ | refine VO.go (VO.nil ?_) | refine VO.go (VO.ld 0 rfl rfl rfl rfl ?_)))
      exact VC.ret (Ret.tmp 4 rfl rfl Ent.refl ⟨rfl, rfl⟩)
  obtain ⟨c, rfl⟩ := Int.eq_ofNat_of_zero_le (show 0 ≤ cl by omega)
  have hc1 : 1 ≤ c := by omega
  have hc4 : c ≤ 4 := by omega
  (repeat (first | refine VC.seq ?_ | refine VC.region ?_ | refine VC.block ?_ | refine VC.label ?_ | refine VC.scope ?_ | refine VO.go (VO.nil ?_) | refine VO.go (VO.ld 0 rfl rfl rfl rfl ?_)))
  refine VO.go (VO.call0 rfl (fun Fr w => new_spec Fr w c hc1 hc4) ?_)
  rintro _ _ ⟨p, rfl, rfl⟩
  (repeat (first | refine VC.seq ?_ | refine VC.region ?_ | refine VC.block ?_ | refine VC.label ?_ | refine VC.scope ?_ | refine VO.go (VO.nil ?_) | refine VO.go (VO.ld 0 rfl rfl rfl rfl ?_)))
  refine VO.go (VO.yes 30 false rfl (decide_eq_false (by omega)) ?_)
  (repeat (first | refine VC.seq ?_ | refine VC.region ?_ | refine VC.block ?_ | refine VC.label ?_ | refine VC.scope ?_ | refine VO.go (VO.nil ?_) | refine VO.go (VO.ld 0 rfl rfl rfl rfl ?_)))
  refine VC.condF (congrArg (fun b => some (Value.bool b)) (decide_eq_false (by omega))) (VC.skip ?_)
  (repeat (first | refine VC.seq ?_ | refine VC.region ?_ | refine VC.block ?_ | refine VC.label ?_ | refine VC.scope ?_ | refine VO.go (VO.nil ?_) | refine VO.go (VO.ld 0 rfl rfl rfl rfl ?_)))
  refine VC.condF rfl (VC.skip ?_)
  (repeat (first | refine VC.seq ?_ | refine VC.region ?_ | refine VC.block ?_ | refine VC.label ?_ | refine VC.scope ?_ | refine VO.go (VO.nil ?_) | refine VO.go (VO.ld 0 rfl rfl rfl rfl ?_)))
  refine VC.loop (σ := Nat × GL) (fun x => [(0, .int .i64 c), (1, .slice a l.length cap), (5, .pointer (some ⟨p, 0, none⟩)), (7, x.2.v), (8, .int .i64 x.1)]) (fun x => [mtH p (mi c l x.1), x.2.h 39]) (SeeI c l) (fun x => l.length - x.1) (0, RL.none)
    ⟨Nat.zero_le _, RL.none_ok, Nat.le_refl _, by rw [mi_zero]; exact Cor.new⟩ (Sub.cons rfl (Sub.cons rfl (Sub.cons rfl (Sub.cons rfl (Sub.cons rfl (Sub.nil _)))))) (Imp.cons (Imp.pure trivial Imp.nil)).ent ?_
  rintro ⟨i, r⟩ ⟨hi, hok, hfew, hcor⟩
  dsimp only at hi hok hfew hcor ⊢
  have hB := mi_okB hc1 hc4 l i hl60
  have hM := hB.ok (by omega)
  have hMc := mi_c c l i
  generalize hMe : mi c l i = M at hB hM hcor hMc
  (repeat (first | refine VC.seq ?_ | refine VC.region ?_ | refine VC.block ?_ | refine VC.label ?_ | refine VC.scope ?_ | refine VO.go (VO.nil ?_) | refine VO.go (VO.ld 0 rfl rfl rfl rfl ?_)))
  refine VC.condP rfl (fun h1 => VC.skip ?_) (fun h1 => VC.exit ?_)
  · have hi2 : i < l.length := by omega
    have hx := List.getElem?_eq_getElem hi2
    generalize l[i] = x at hx
    obtain ⟨fb, fo, rfl, ra, _⟩ := FsIn.rd (X := ⟨Tryd.prog, tab, tabOk, 159, Fr, w⟩) h hx
    have hnx := mi_next (c := c) hx
    rw [hMe] at hnx
    have hM1 := (hB.see x.1).ok (by omega)
    have he := see_err M x.1
    rw [hMc] at he
    (repeat (first | refine VC.seq ?_ | refine VC.region ?_ | refine VC.block ?_ | refine VC.label ?_ | refine VC.scope ?_ | refine VO.go (VO.nil ?_) | refine VO.go (VO.ld 0 rfl rfl rfl rfl ?_)))
    refine VO.go (VO.call (Lc := []) (Lr := [mtH p M, r.h 39]) (fun Fr w hF hs hS => copy_spec Fr w hM (hS.at_ 0 rfl)) rfl rfl ?_)
    rintro _ _ ⟨p', rfl, rfl⟩
    (repeat (first | refine VC.seq ?_ | refine VC.region ?_ | refine VC.block ?_ | refine VC.label ?_ | refine VC.scope ?_ | refine VO.go (VO.nil ?_) | refine VO.go (VO.ld 0 rfl rfl rfl rfl ?_)))
    refine VO.go (VO.light (light_idx i rfl rfl rfl rfl rfl rfl hi2) ?_)
    refine VO.go (VO.load rfl rfl (ra _) ?_)
    refine VO.go (VO.callAt 0 rfl (fun Fr w hF hs hS => see_spec Fr w hM x) rfl (ψ := fun v H => H = mtH p' (M.see x.1).1) (fun v L h => ⟨_, h.2, rfl⟩) ?_)
    rintro v1 _ rfl
    (repeat (first | refine VC.seq ?_ | refine VC.region ?_ | refine VC.block ?_ | refine VC.label ?_ | refine VC.scope ?_ | refine VO.go (VO.nil ?_) | refine VO.go (VO.ld 0 rfl rfl rfl rfl ?_)))
    refine VO.go (VO.light (light_build (pv := [(0, .int .i64 2)]) (fgc xRep) rfl rfl rfl (by kernel_rfl) rfl) ?_)
    refine VO.go (VO.callAt 0 rfl (fun Fr w hF hs hS => see_spec Fr w hM1 xRep) rfl (ψ := fun v H => H = mtH p' ((M.see x.1).1.see xRep.1).1) (fun v L h => ⟨_, h.2, rfl⟩) ?_)
    rintro v2 _ rfl
    (repeat (first | refine VC.seq ?_ | refine VC.region ?_ | refine VC.block ?_ | refine VC.label ?_ | refine VC.scope ?_ | refine VO.go (VO.nil ?_) | refine VO.go (VO.ld 0 rfl rfl rfl rfl ?_)))
    refine VO.go (VO.light (light_idx i rfl rfl rfl rfl rfl rfl hi2) ?_)
    refine VO.go (VO.load rfl rfl (ra _) ?_)
    refine VO.go (VO.call (Lc := []) (Lr := [mtH p' ((M.see x.1).1.see xRep.1).1, mtH p M, r.h 39]) (fun Fr w hF hs hS => rsee_spec Fr w c hok (RlIn.sat (hS.at_ 2 rfl)) (by omega) x) rfl rfl ?_)
    rintro v3 L3 ⟨hbad, hgood⟩
    cases hb : bad (c : Int) x.1
    · obtain ⟨r', rfl, rfl, hok', hx'⟩ := hgood hb
      rw [hb] at he
      (repeat (first | refine VC.seq ?_ | refine VC.region ?_ | refine VC.block ?_ | refine VC.label ?_ | refine VC.scope ?_ | refine VO.go (VO.nil ?_) | refine VO.go (VO.ld 0 rfl rfl rfl rfl ?_)))
      refine VO.go (VO.light (light_idx i rfl rfl rfl rfl rfl rfl hi2) ?_)
      refine VO.go (VO.load rfl rfl (ra _) ?_)
      refine VO.go (VO.callAt 2 rfl (fun Fr w hF hs hS => see_spec Fr w hM x) rfl (ψ := fun v H => v = .int .i64 0 ∧ H = mtH p (M.see x.1).1) (fun v L h => ⟨_, h.2, by rw [h.1, he]; rfl, rfl⟩) ?_)
      rintro _ _ ⟨rfl, rfl⟩
      (repeat (first | refine VC.seq ?_ | refine VC.region ?_ | refine VC.block ?_ | refine VC.label ?_ | refine VC.scope ?_ | refine VO.go (VO.nil ?_) | refine VO.go (VO.ld 0 rfl rfl rfl rfl ?_)))
      refine VC.condF rfl (VC.skip ?_)
      (repeat (first | refine VC.seq ?_ | refine VC.region ?_ | refine VC.block ?_ | refine VC.label ?_ | refine VC.scope ?_ | refine VO.go (VO.nil ?_) | refine VO.go (VO.ld 0 rfl rfl rfl rfl ?_)))
      refine VO.go (VO.add rfl rfl (by omega) (by omega) ?_)
      (repeat (first | refine VC.seq ?_ | refine VC.region ?_ | refine VC.block ?_ | refine VC.label ?_ | refine VC.scope ?_ | refine VO.go (VO.nil ?_) | refine VO.go (VO.ld 0 rfl rfl rfl rfl ?_)))
      refine ⟨(i + 1, r'), ⟨hi2, hok', by dsimp only; rw [hx', List.length_append]; simp; omega, ?_⟩, by dsimp only; omega, Sub.cons rfl (Sub.cons rfl (Sub.cons rfl (Sub.cons rfl (Sub.cons rfl (Sub.nil _))))), ?_⟩
      · dsimp only
        rw [hnx, hx', List.map_append]
        exact hcor.see hB.len (by rw [hMc]; exact hb)
      · dsimp only
        rw [hnx]
        exact (Imp.pick 2 rfl (Imp.pick 0 rfl Imp.nil)).ent
    · obtain ⟨rfl, rfl⟩ := hbad hb
      rw [hb] at he
      have hsb : (M.see x.1).1 = M := see_bad (by rw [hMc]; exact hb)
      (repeat (first | refine VC.seq ?_ | refine VC.region ?_ | refine VC.block ?_ | refine VC.label ?_ | refine VC.scope ?_ | refine VO.go (VO.nil ?_) | refine VO.go (VO.ld 0 rfl rfl rfl rfl ?_)))
      refine VO.go (VO.light (light_idx i rfl rfl rfl rfl rfl rfl hi2) ?_)
      refine VO.go (VO.load rfl rfl (ra _) ?_)
      refine VO.go (VO.callAt 1 rfl (fun Fr w hF hs hS => see_spec Fr w hM x) rfl (ψ := fun v H => v = .int .i64 2 ∧ H = mtH p (M.see x.1).1) (fun v L h => ⟨_, h.2, by rw [h.1, he]; rfl, rfl⟩) ?_)
      rintro _ _ ⟨rfl, rfl⟩
      (repeat (first | refine VC.seq ?_ | refine VC.region ?_ | refine VC.block ?_ | refine VC.label ?_ | refine VC.scope ?_ | refine VO.go (VO.nil ?_) | refine VO.go (VO.ld 0 rfl rfl rfl rfl ?_)))
      refine VC.condF rfl (VC.skip ?_)
      (repeat (first | refine VC.seq ?_ | refine VC.region ?_ | refine VC.block ?_ | refine VC.label ?_ | refine VC.scope ?_ | refine VO.go (VO.nil ?_) | refine VO.go (VO.ld 0 rfl rfl rfl rfl ?_)))
      refine VO.go (VO.add rfl rfl (by omega) (by omega) ?_)
      (repeat (first | refine VC.seq ?_ | refine VC.region ?_ | refine VC.block ?_ | refine VC.label ?_ | refine VC.scope ?_ | refine VO.go (VO.nil ?_) | refine VO.go (VO.ld 0 rfl rfl rfl rfl ?_)))
      refine ⟨(i + 1, r), ⟨hi2, hok, by dsimp only; omega, ?_⟩, by dsimp only; omega, Sub.cons rfl (Sub.cons rfl (Sub.cons rfl (Sub.cons rfl (Sub.cons rfl (Sub.nil _))))), ?_⟩
      · dsimp only
        rw [hnx, hsb]
        exact hcor
      · dsimp only
        rw [hnx]
        exact (Imp.pick 1 rfl (Imp.pick 1 rfl Imp.nil)).ent
  · have hrl : r.xs.length ≤ 1000 := by omega
    have hF2 : ∀ {Fr' : Nat → Prop} {w' : World}, SatIn Fr' [mtH p M, r.h 39] w' → FsIn Fr' w' r.addr r.xs := fun hS => (RlIn.sat (hS.at_ 1 rfl)).fs hok
    (repeat (first | refine VC.seq ?_ | refine VC.region ?_ | refine VC.block ?_ | refine VC.label ?_ | refine VC.scope ?_ | refine VO.go (VO.nil ?_) | refine VO.go (VO.ld 0 rfl rfl rfl rfl ?_)))
    refine VC.loop (σ := Nat) (fun j => [(0, .int .i64 c), (5, .pointer (some ⟨p, 0, none⟩)), (7, r.v), (12, .int .i64 ((j : Int) - 1))]) (fun _ => [mtH p M, r.h 39]) (fun j => j ≤ 13) (fun j => 13 - j) 0 (Nat.zero_le _) (Sub.cons rfl (Sub.cons rfl (Sub.cons rfl (Sub.cons rfl (Sub.nil _))))) Ent.refl ?_
    intro j hj
    (repeat (first | refine VC.seq ?_ | refine VC.region ?_ | refine VC.block ?_ | refine VC.label ?_ | refine VC.scope ?_ | refine VO.go (VO.nil ?_) | refine VO.go (VO.ld 0 rfl rfl rfl rfl ?_)))
    refine VC.condP rfl (fun h2 => VC.skip ?_) (fun h2 => VC.exit ?_)
    · generalize hn : (j : Int) - 1 = n at h2 ⊢
      have hn0 : -1 ≤ n := by omega
      (repeat (first | refine VC.seq ?_ | refine VC.region ?_ | refine VC.block ?_ | refine VC.label ?_ | refine VC.scope ?_ | refine VO.go (VO.nil ?_) | refine VO.go (VO.ld 0 rfl rfl rfl rfl ?_)))
      refine VO.go (VO.callV' (fun Fr w hF hs hS => count_spec (cap := r.cap) Fr w (hF2 hS) hrl 1 n (-1)) rfl ?_)
      (repeat (first | refine VC.seq ?_ | refine VC.region ?_ | refine VC.block ?_ | refine VC.label ?_ | refine VC.scope ?_ | refine VO.go (VO.nil ?_) | refine VO.go (VO.ld 0 rfl rfl rfl rfl ?_)))
      refine VO.go (VO.callV' (fun Fr w hF hs hS => count_spec (cap := r.cap) Fr w (hF2 hS) hrl 3 (-1) n) rfl ?_)
      (repeat (first | refine VC.seq ?_ | refine VC.region ?_ | refine VC.block ?_ | refine VC.label ?_ | refine VC.scope ?_ | refine VO.go (VO.nil ?_) | refine VO.go (VO.ld 0 rfl rfl rfl rfl ?_)))
      refine VO.go (VO.callV' (fun Fr w hF hs hS => rshare_spec (cap := r.cap) Fr w (hF2 hS) hrl n) rfl ?_)
      refine VO.go (VO.nil ?_)
      refine VC.meet (σ := Unit) (fun _ => [(0, .int .i64 c), (5, .pointer (some ⟨p, 0, none⟩)), (7, r.v), (12, .int .i64 n), (13, .int .i64 (M.calls n)), (14, .int .i64 (M.bytes n)), (15, .int .i64 (cntN 3 (-1) n (r.xs.map Prod.fst))), (17, .int .i64 (M.share n))]) (fun _ => [mtH p M, r.h 39]) (fun _ => True) ?_ ?_
      · have out : ¬ (0 ≤ n ∧ n < (M.c : Int)) → M.calls n = 0 ∧ M.bytes n = 0 ∧ M.share n = 0 := fun hx => ⟨by rw [MM.calls, if_neg hx], by rw [MM.bytes, if_neg hx], by rw [MM.share, if_neg hx]⟩
        (repeat (first | refine VC.seq ?_ | refine VC.region ?_ | refine VC.block ?_ | refine VC.label ?_ | refine VC.scope ?_ | refine VO.go (VO.nil ?_) | refine VO.go (VO.ld 0 rfl rfl rfl rfl ?_)))
        refine VO.go (VO.split 102 rfl rfl (fun h3 => ?_) (fun h3 => ?_))
        · have h3 := of_decide_eq_true h3
          obtain ⟨o1, o2, o3⟩ := out (by omega)
          (repeat (first | refine VC.seq ?_ | refine VC.region ?_ | refine VC.block ?_ | refine VC.label ?_ | refine VC.scope ?_ | refine VO.go (VO.nil ?_) | refine VO.go (VO.ld 0 rfl rfl rfl rfl ?_)))
          refine VC.condT rfl ?_
          (repeat (first | refine VC.seq ?_ | refine VC.region ?_ | refine VC.block ?_ | refine VC.label ?_ | refine VC.scope ?_ | refine VO.go (VO.nil ?_) | refine VO.go (VO.ld 0 rfl rfl rfl rfl ?_)))
          exact ⟨(), trivial, Sub.cons rfl (Sub.cons rfl (Sub.cons rfl (Sub.cons rfl (Sub.int rfl o1.symm (Sub.int rfl o2.symm (Sub.cons rfl (Sub.int rfl o3.symm (Sub.nil _)))))))), Ent.refl⟩
        · have h3 := of_decide_eq_false h3
          (repeat (first | refine VC.seq ?_ | refine VC.region ?_ | refine VC.block ?_ | refine VC.label ?_ | refine VC.scope ?_ | refine VO.go (VO.nil ?_) | refine VO.go (VO.ld 0 rfl rfl rfl rfl ?_)))
          refine VC.condP rfl (fun h4 => ?_) (fun h4 => VC.skip ?_)
          · obtain ⟨o1, o2, o3⟩ := out (by omega)
            (repeat (first | refine VC.seq ?_ | refine VC.region ?_ | refine VC.block ?_ | refine VC.label ?_ | refine VC.scope ?_ | refine VO.go (VO.nil ?_) | refine VO.go (VO.ld 0 rfl rfl rfl rfl ?_)))
            exact ⟨(), trivial, Sub.cons rfl (Sub.cons rfl (Sub.cons rfl (Sub.cons rfl (Sub.int rfl o1.symm (Sub.int rfl o2.symm (Sub.cons rfl (Sub.int rfl o3.symm (Sub.nil _)))))))), Ent.refl⟩
          · exact ⟨(), trivial, Sub.cons rfl (Sub.cons rfl (Sub.cons rfl (Sub.cons rfl (Sub.int rfl (hcor.calls n (by omega) (by omega)) (Sub.int rfl (hcor.bytes n (by omega) (by omega)) (Sub.cons rfl (Sub.int rfl (hcor.share (by omega) (by omega)) (Sub.nil _)))))))), Ent.refl⟩
      intro _ _
      try dsimp only
      refine VC.meet (σ := Unit) (fun _ => [(0, .int .i64 c), (5, .pointer (some ⟨p, 0, none⟩)), (7, r.v), (12, .int .i64 n), (13, .int .i64 (M.calls n)), (14, .int .i64 (M.bytes n)), (15, .int .i64 (M.refused n)), (17, .int .i64 (M.share n))]) (fun _ => [mtH p M, r.h 39]) (fun _ => True) ?_ ?_
      · have out : ¬ (1 ≤ n ∧ n ≤ 10) → M.refused n = 0 := fun hx => by rw [MM.refused, if_neg hx]
        (repeat (first | refine VC.seq ?_ | refine VC.region ?_ | refine VC.block ?_ | refine VC.label ?_ | refine VC.scope ?_ | refine VO.go (VO.nil ?_) | refine VO.go (VO.ld 0 rfl rfl rfl rfl ?_)))
        refine VO.go (VO.split 109 rfl rfl (fun h3 => ?_) (fun h3 => ?_))
        · have h3 := of_decide_eq_true h3
          have o1 := out (by omega)
          (repeat (first | refine VC.seq ?_ | refine VC.region ?_ | refine VC.block ?_ | refine VC.label ?_ | refine VC.scope ?_ | refine VO.go (VO.nil ?_) | refine VO.go (VO.ld 0 rfl rfl rfl rfl ?_)))
          refine VC.condT rfl ?_
          (repeat (first | refine VC.seq ?_ | refine VC.region ?_ | refine VC.block ?_ | refine VC.label ?_ | refine VC.scope ?_ | refine VO.go (VO.nil ?_) | refine VO.go (VO.ld 0 rfl rfl rfl rfl ?_)))
          exact ⟨(), trivial, Sub.cons rfl (Sub.cons rfl (Sub.cons rfl (Sub.cons rfl (Sub.cons rfl (Sub.cons rfl (Sub.int rfl o1.symm (Sub.cons rfl (Sub.nil _)))))))), Ent.refl⟩
        · have h3 := of_decide_eq_false h3
          (repeat (first | refine VC.seq ?_ | refine VC.region ?_ | refine VC.block ?_ | refine VC.label ?_ | refine VC.scope ?_ | refine VO.go (VO.nil ?_) | refine VO.go (VO.ld 0 rfl rfl rfl rfl ?_)))
          refine VC.condP rfl (fun h4 => ?_) (fun h4 => VC.skip ?_)
          · have o1 := out (by omega)
            (repeat (first | refine VC.seq ?_ | refine VC.region ?_ | refine VC.block ?_ | refine VC.label ?_ | refine VC.scope ?_ | refine VO.go (VO.nil ?_) | refine VO.go (VO.ld 0 rfl rfl rfl rfl ?_)))
            exact ⟨(), trivial, Sub.cons rfl (Sub.cons rfl (Sub.cons rfl (Sub.cons rfl (Sub.cons rfl (Sub.cons rfl (Sub.int rfl o1.symm (Sub.cons rfl (Sub.nil _)))))))), Ent.refl⟩
          · exact ⟨(), trivial, Sub.cons rfl (Sub.cons rfl (Sub.cons rfl (Sub.cons rfl (Sub.cons rfl (Sub.cons rfl (Sub.int rfl (hcor.refused n (by omega) (by omega)) (Sub.cons rfl (Sub.nil _)))))))), Ent.refl⟩
      intro _ _
      try dsimp only
      (repeat (first | refine VC.seq ?_ | refine VC.region ?_ | refine VC.block ?_ | refine VC.label ?_ | refine VC.scope ?_ | refine VO.go (VO.nil ?_) | refine VO.go (VO.ld 0 rfl rfl rfl rfl ?_)))
      refine VO.go (VO.callV' (fun Fr w hF hs hS => calls_spec Fr w hM (hS.at_ 0 rfl) n) rfl ?_)
      (repeat (first | refine VC.seq ?_ | refine VC.region ?_ | refine VC.block ?_ | refine VC.label ?_ | refine VC.scope ?_ | refine VO.go (VO.nil ?_) | refine VO.go (VO.ld 0 rfl rfl rfl rfl ?_)))
      refine VO.go (VO.yes 118 false rfl (bne_self_eq_false _) ?_)
      (repeat (first | refine VC.seq ?_ | refine VC.region ?_ | refine VC.block ?_ | refine VC.label ?_ | refine VC.scope ?_ | refine VO.go (VO.nil ?_) | refine VO.go (VO.ld 0 rfl rfl rfl rfl ?_)))
      refine VO.go (VO.callV' (fun Fr w hF hs hS => bytes_spec Fr w hM (hS.at_ 0 rfl) n) rfl ?_)
      (repeat (first | refine VC.seq ?_ | refine VC.region ?_ | refine VC.block ?_ | refine VC.label ?_ | refine VC.scope ?_ | refine VO.go (VO.nil ?_) | refine VO.go (VO.ld 0 rfl rfl rfl rfl ?_)))
      refine VO.go (VO.yes 125 false rfl (bne_self_eq_false _) ?_)
      (repeat (first | refine VC.seq ?_ | refine VC.region ?_ | refine VC.block ?_ | refine VC.label ?_ | refine VC.scope ?_ | refine VO.go (VO.nil ?_) | refine VO.go (VO.ld 0 rfl rfl rfl rfl ?_)))
      refine VO.go (VO.callV' (fun Fr w hF hs hS => share_spec Fr w hM (hS.at_ 0 rfl) n) rfl ?_)
      (repeat (first | refine VC.seq ?_ | refine VC.region ?_ | refine VC.block ?_ | refine VC.label ?_ | refine VC.scope ?_ | refine VO.go (VO.nil ?_) | refine VO.go (VO.ld 0 rfl rfl rfl rfl ?_)))
      refine VO.go (VO.yes 132 false rfl (bne_self_eq_false _) ?_)
      (repeat (first | refine VC.seq ?_ | refine VC.region ?_ | refine VC.block ?_ | refine VC.label ?_ | refine VC.scope ?_ | refine VO.go (VO.nil ?_) | refine VO.go (VO.ld 0 rfl rfl rfl rfl ?_)))
      refine VO.go (VO.callV' (fun Fr w hF hs hS => refused_spec Fr w hM (hS.at_ 0 rfl) n) rfl ?_)
      (repeat (first | refine VC.seq ?_ | refine VC.region ?_ | refine VC.block ?_ | refine VC.label ?_ | refine VC.scope ?_ | refine VO.go (VO.nil ?_) | refine VO.go (VO.ld 0 rfl rfl rfl rfl ?_)))
      refine VC.condF (congrArg (fun b => some (Value.bool b)) (bne_self_eq_false _)) (VC.skip ?_)
      (repeat (first | refine VC.seq ?_ | refine VC.region ?_ | refine VC.block ?_ | refine VC.label ?_ | refine VC.scope ?_ | refine VO.go (VO.nil ?_) | refine VO.go (VO.ld 0 rfl rfl rfl rfl ?_)))
      refine VO.go (VO.add rfl rfl (by omega) (by omega) ?_)
      (repeat (first | refine VC.seq ?_ | refine VC.region ?_ | refine VC.block ?_ | refine VC.label ?_ | refine VC.scope ?_ | refine VO.go (VO.nil ?_) | refine VO.go (VO.ld 0 rfl rfl rfl rfl ?_)))
      exact ⟨j + 1, by show j + 1 ≤ 13; omega, by dsimp only; omega, Sub.cons rfl (Sub.cons rfl (Sub.cons rfl (Sub.int rfl (by omega) (Sub.nil _)))), Ent.refl⟩
    · (repeat (first | refine VC.seq ?_ | refine VC.region ?_ | refine VC.block ?_ | refine VC.label ?_ | refine VC.scope ?_ | refine VO.go (VO.nil ?_) | refine VO.go (VO.ld 0 rfl rfl rfl rfl ?_)))
      refine VO.go (VO.callV' (fun Fr w hF hs hS => count_spec (cap := r.cap) Fr w (hF2 hS) hrl 2 (-1) (-1)) rfl ?_)
      rw [hcor.replies]
      (repeat (first | refine VC.seq ?_ | refine VC.region ?_ | refine VC.block ?_ | refine VC.label ?_ | refine VC.scope ?_ | refine VO.go (VO.nil ?_) | refine VO.go (VO.ld 0 rfl rfl rfl rfl ?_)))
      refine VO.go (VO.callV' (fun Fr w hF hs hS => replies_spec Fr w hM (hS.at_ 0 rfl)) rfl ?_)
      (repeat (first | refine VC.seq ?_ | refine VC.region ?_ | refine VC.block ?_ | refine VC.label ?_ | refine VC.scope ?_ | refine VO.go (VO.nil ?_) | refine VO.go (VO.ld 0 rfl rfl rfl rfl ?_)))
      refine VO.go (VO.yes 148 true rfl (beq_self_eq_true _) ?_)
      (repeat (first | refine VC.seq ?_ | refine VC.region ?_ | refine VC.block ?_ | refine VC.label ?_ | refine VC.scope ?_ | refine VO.go (VO.nil ?_) | refine VO.go (VO.ld 0 rfl rfl rfl rfl ?_)))
      refine VO.go (VO.callV' (fun Fr w hF hs hS => table_spec Fr w hM (hS.at_ 0 rfl) (TabF.st rfl hT hF hs)) rfl ?_)
      (repeat (first | refine VC.seq ?_ | refine VC.region ?_ | refine VC.block ?_ | refine VC.label ?_ | refine VC.scope ?_ | refine VO.go (VO.nil ?_) | refine VO.go (VO.ld 0 rfl rfl rfl rfl ?_)))
      refine VO.go (VO.callV' (fun Fr w hF hs hS => rtable_spec (cap := r.cap) Fr w (hF2 hS) hrl hM hcor) (by rw [hMc]; rfl) ?_)
      (repeat (first | refine VC.seq ?_ | refine VC.region ?_ | refine VC.block ?_ | refine VC.label ?_ | refine VC.scope ?_ | refine VO.go (VO.nil ?_) | refine VO.go (VO.ld 0 rfl rfl rfl rfl ?_)))
      refine VO.go (VO.yes 156 true rfl (beq_self_eq_true _) ?_)
      (repeat (first | refine VC.seq ?_ | refine VC.region ?_ | refine VC.block ?_ | refine VC.label ?_ | refine VC.scope ?_ | refine VO.go (VO.nil ?_) | refine VO.go (VO.ld 0 rfl rfl rfl rfl ?_)))
      refine VO.go (VO.callV' (fun Fr w hF hs _ => counted_spec Fr w (TabF.st rfl hT hF hs)) rfl ?_)
      (repeat (first | refine VC.seq ?_ | refine VC.region ?_ | refine VC.block ?_ | refine VC.label ?_ | refine VC.scope ?_ | refine VO.go (VO.nil ?_) | refine VO.go (VO.ld 0 rfl rfl rfl rfl ?_)))
      exact VC.ret (Ret.tmp 4 rfl rfl Imp.nil.ent ⟨rfl, rfl⟩)
end Go.Proofs.YtoinocihlfmnnaaDoor.Met
