/- Layer 33's reference: a cell put into its place; an update carried out. No condition. -/
import Derived.Test.YthabecjplpomhaaDoorRf2
namespace Go.Proofs.YthabecjplpomhaaDoor.Br
open Go Go.Proofs.YthabecjplpomhaaDoor.Vg Go.Proofs.YthabecjplpomhaaDoor.T Go.Proofs.YthabecjplpomhaaDoor.Api Go.Proofs.YthabecjplpomhaaDoor.Kv Go.Proofs.YthabecjplpomhaaDoor.LibC
set_option linter.unusedSimpArgs false
set_option linter.unusedVariables false
attribute [local irreducible] VO VC VA

set_option maxRecDepth 100000 in
set_option maxHeartbeats 1000000 in
theorem with_spec (Fr : Nat → Prop) (w : World) {a : Option Addr} {cap : Nat} {C : KvM} (h : ClIn Fr w a C) (hl : C.length ≤ 1000) (x : Cell) :
    Tri Tryd.prog 31 [.slice a C.length cap, .agg (cC x).toArray] Fr w [] (fun v L => ∃ i a' c', i ≤ (wout C x.1).length ∧ v = .slice a' ((wout C x.1).take i ++ x :: (wout C x.1).drop i).length c' ∧ L = [slH 74 3 a' ((wout C x.1).take i ++ x :: (wout C x.1).drop i).length c' (flat cC ((wout C x.1).take i ++ x :: (wout C x.1).drop i))]) := by
  have hDl := wout_len C x.1
  refine Tri.of 37 Tryd.func31 rfl (by kernel_rfl) tabOk rfl rfl ?_
  refine VC.seq (VC.region (VO.go (VO.boxA (vs := cC x) rfl fun tb => ?_)))
  (repeat (first | refine VC.seq ?_ | refine VC.region ?_ | refine VC.block ?_ | refine VC.label ?_ | refine VC.scope ?_ | refine VO.go (VO.nil ?_) | refine VO.go (VO.ld 0 rfl rfl rfl rfl ?_)))
  refine VO.go (VO.call (Lc := []) (fun Fr w hF hs hS => without_spec Fr w (h.of hF hs) hl x.1) rfl rfl ?_)
  rintro _ _ ⟨a', c', rfl, rfl⟩
  refine VO.opn 0 rfl (HOpn.rl _ _ _ (wout C x.1) cC_len) ?_
  rintro r ⟨hok, hv, hx⟩
  rw [← hv]
  rw [← hx] at hDl
  have hroom := hok.room
  (repeat (first | refine VC.seq ?_ | refine VC.region ?_ | refine VC.block ?_ | refine VC.label ?_ | refine VC.scope ?_ | refine VO.go (VO.nil ?_) | refine VO.go (VO.ld 0 rfl rfl rfl rfl ?_)))
  refine VC.loop (σ := Nat) (fun i => [(0, r.v), (3, .pointer (some ⟨tb, 0, none⟩)), (5, .int .i64 i)]) (fun _ => [r.h 74, pt tb (cC x) 74]) (fun i => i ≤ r.xs.length) (fun i => r.xs.length - i) 0
    (Nat.zero_le _) (Sub.cons rfl (Sub.cons rfl (Sub.cons rfl (Sub.nil _)))) Ent.refl ?_
  intro i hi
  refine VC.seq (VC.seq ?_)
  refine VC.meetS (σ := Bool) (fun t => [(0, r.v), (3, .pointer (some ⟨tb, 0, none⟩)), (5, .int .i64 i), (23, .bool t)]) (fun _ => [r.h 74, pt tb (cC x) 74]) (fun t => t = true → i < r.xs.length) ?_ ?_
  · by_cases h1 : i < r.xs.length
    · obtain ⟨y, hy⟩ : ∃ y, r.xs[i]? = some y := ⟨_, List.getElem?_eq_getElem h1⟩
      obtain ⟨kb, ko, e1, e2, hrd⟩ := hok.ld hy rfl
      have hrv : r.v = .slice (some ⟨kb, ko, none⟩) r.xs.length r.cap := by rw [RL.v, e2]
      rw [hrv]
      refine VC.draw (ts 0 14 .nil) (by kernel_rfl) (by decide +kernel) ?_
      (repeat (first | refine VA.go (VA.nil ?_) | refine VA.go (VA.ld 0 rfl rfl rfl rfl rfl ?_)))
      refine VA.go (VA.yes 14 true rfl (decide_eq_true (by omega)) ?_)
      (repeat (first | refine VA.go (VA.nil ?_) | refine VA.go (VA.ld 0 rfl rfl rfl rfl rfl ?_) | refine VA.go (VA.offU rfl rfl rfl rfl ?_)))
      refine VA.go (VA.light rfl (light_idx i rfl rfl rfl rfl rfl rfl h1) ?_)
      (repeat (first | refine VA.go (VA.nil ?_) | refine VA.go (VA.ld 0 rfl rfl rfl rfl rfl ?_) | refine VA.go (VA.offU rfl rfl rfl rfl ?_)))
      refine VA.go (VA.load rfl rfl rfl ((hrd 0 rfl).2 _ 0 _ rfl rfl) ?_)
      (repeat (first | refine VA.go (VA.nil ?_) | refine VA.go (VA.ld 0 rfl rfl rfl rfl rfl ?_) | refine VA.go (VA.offU rfl rfl rfl rfl ?_)))
      refine VA.go (VA.ld 1 rfl rfl rfl rfl rfl ?_)
      refine VA.go (VA.light rfl (light_ltStr rfl rfl) ?_)
      (repeat (first | refine VA.go (VA.nil ?_) | refine VA.go (VA.ld 0 rfl rfl rfl rfl rfl ?_) | refine VA.go (VA.offU rfl rfl rfl rfl ?_)))
      exact ⟨_, fun _ => h1, Sub.cons rfl (Sub.cons rfl (Sub.cons rfl (Sub.cons rfl (Sub.nil _)))), Ent.refl⟩
    · refine VC.draw (ts 0 14 .nil) (by kernel_rfl) (by decide +kernel) ?_
      (repeat (first | refine VA.go (VA.nil ?_) | refine VA.go (VA.ld 0 rfl rfl rfl rfl rfl ?_)))
      refine VA.go (VA.yes 14 false rfl (decide_eq_false (by omega)) ?_)
      (repeat (first | refine VA.go (VA.nil ?_) | refine VA.go (VA.ld 0 rfl rfl rfl rfl rfl ?_) | refine VA.go (VA.offU rfl rfl rfl rfl ?_)))
      exact ⟨_, (fun h => by cases h), Sub.cons rfl (Sub.cons rfl (Sub.cons rfl (Sub.cons rfl (Sub.nil _)))), Ent.refl⟩
  intro t ht
  refine VC.cond rfl (fun h1 => VC.skip ?_) (fun h1 => VC.exit ?_)
  · have h2 := ht h1
    (repeat (first | refine VC.seq ?_ | refine VC.region ?_ | refine VC.block ?_ | refine VC.label ?_ | refine VC.scope ?_ | refine VO.go (VO.nil ?_) | refine VO.go (VO.ld 0 rfl rfl rfl rfl ?_)))
    refine VO.go (VO.add rfl rfl (by omega) (by omega) ?_)
    (repeat (first | refine VC.seq ?_ | refine VC.region ?_ | refine VC.block ?_ | refine VC.label ?_ | refine VC.scope ?_ | refine VO.go (VO.nil ?_) | refine VO.go (VO.ld 0 rfl rfl rfl rfl ?_)))
    exact ⟨i + 1, h2, by dsimp only; omega, Sub.cons rfl (Sub.cons rfl (Sub.cons rfl (Sub.nil _))), Ent.refl⟩
  have e2 : ∀ {a2 : Option Addr} {c2 : Nat}, Value.slice a2 (0 + i + 1 + (r.xs.length - i)) c2 = Value.slice a2 (r.xs.take i ++ x :: r.xs.drop i).length c2 := fun {a2 c2} => by
    congr 1; simp only [List.length_append, List.length_cons, List.length_take, List.length_drop]; omega
  have e1 : ∀ {a2 : Option Addr} {c2 : Nat}, slH 74 3 a2 (0 + i + 1 + (r.xs.length - i)) c2 ([] ++ flat cC (r.xs.take i) ++ cC x ++ flat cC (r.xs.drop i)) = slH 74 3 a2 (r.xs.take i ++ x :: r.xs.drop i).length c2 (flat cC (r.xs.take i ++ x :: r.xs.drop i)) := fun {a2 c2} => by
    congr 1
    · simp only [List.length_append, List.length_cons, List.length_take, List.length_drop]; omega
    · simp [flat_append, flat_cons]
  refine VC.seq (VC.draw (ts 0 3 (.take 4 (.take 7 (.take 8 (.take 9 (.two 3 5 (.only 5 (.only 6 (.only 10 (.take 11 .nil)))) (.only 3 (.only 6 (.only 10 (.take 11 .nil)))))))))) (by kernel_rfl) (by decide +kernel) ?_)
  (repeat (first | refine VA.go (VA.nil ?_) | refine VA.go (VA.ld 0 rfl rfl rfl rfl rfl ?_)))
  refine VA.go (VA.light rfl (light_head i rfl rfl rfl rfl rfl rfl (by omega)) ?_)
  (repeat (first | refine VA.go (VA.nil ?_) | refine VA.go (VA.ld 0 rfl rfl rfl rfl rfl ?_)))
  refine VA.go (VA.ldA 1 (cC x) rfl rfl rfl rfl rfl ?_)
  (repeat (first | refine VA.go (VA.nil ?_) | refine VA.go (VA.ld 0 rfl rfl rfl rfl rfl ?_)))
  refine VA.go (VA.light rfl (light_from i rfl rfl rfl rfl rfl rfl hi hroom) ?_)
  refine VA.ent (L' := slH 74 3 none 0 0 [] :: r.h 74 :: pt tb (cC x) 74 :: []) (Imp.slNil (Imp.pick 0 rfl (Imp.pick 0 rfl Imp.nil))).ent ?_
  refine VA.go (VA.two rfl rfl rfl rfl rfl (OpT.append (m := i) (news := flat cC (r.xs.take i)) 0 rfl rfl rfl rfl rfl rfl rfl (RL.rdHead (t := 74) cC_len hok 1 rfl hi) (flat_all cC_one _) (by show (0 + i) * 40 ≤ _; omega) (by omega))
    rfl rfl rfl (OpT.buildSlice (n := 1) (pv := [(0, .agg (cC x).toArray)]) (cells := cC x) rfl rfl rfl rfl (by decide) (fill_one rfl rfl rfl)) ?_ ?_ ?_ ?_)
  · rintro v L' ⟨a1, c1, rfl, hc1, rfl⟩
    exact (by (try refine Pd.st ?_); (repeat (first | exact Pd.nil | exact Pd.fnil | refine Pd.inner ?_ | refine Pd.skip (by decide +kernel) ?_ | refine Pd.fcons (RdL.one 0 rfl rfl) ?_ | refine Pd.fcons (RdL.one 1 rfl rfl) ?_ | refine Pd.fcons (RdL.one 2 rfl rfl) ?_ | refine Pd.fcons (RdL.one 3 rfl rfl) ?_ | refine Pd.fcons (RdL.many 0 rfl rfl) ?_ | refine Pd.fcons (RdL.many 1 rfl rfl) ?_ | refine Pd.fcons (RdL.many 2 rfl rfl) ?_ | refine Pd.fcons (RdL.many 3 rfl rfl) ?_ | refine Pd.cons (RdL.one 0 rfl rfl) ?_ | refine Pd.cons (RdL.one 1 rfl rfl) ?_ | refine Pd.cons (RdL.one 2 rfl rfl) ?_ | refine Pd.cons (RdL.one 3 rfl rfl) ?_ | refine Pd.cons (RdL.many 0 rfl rfl) ?_ | refine Pd.cons (RdL.many 1 rfl rfl) ?_ | refine Pd.cons (RdL.many 2 rfl rfl) ?_ | refine Pd.cons (RdL.many 3 rfl rfl) ?_ | refine Pd.fconsM (MpL.one 0 rfl) ?_ | refine Pd.fconsM (MpL.one 1 rfl) ?_ | refine Pd.fconsM (MpL.one 2 rfl) ?_ | refine Pd.fconsM (MpL.one 3 rfl) ?_ | refine Pd.consM (MpL.one 0 rfl) ?_ | refine Pd.consM (MpL.one 1 rfl) ?_ | refine Pd.consM (MpL.one 2 rfl) ?_ | refine Pd.consM (MpL.one 3 rfl) ?_)))
  · rintro v L' ⟨nb, rfl, rfl⟩
    exact (by (try refine Pd.st ?_); (repeat (first | exact Pd.nil | exact Pd.fnil | refine Pd.inner ?_ | refine Pd.skip (by decide +kernel) ?_ | refine Pd.fcons (RdL.one 0 rfl rfl) ?_ | refine Pd.fcons (RdL.one 1 rfl rfl) ?_ | refine Pd.fcons (RdL.one 2 rfl rfl) ?_ | refine Pd.fcons (RdL.one 3 rfl rfl) ?_ | refine Pd.fcons (RdL.one 4 rfl rfl) ?_ | refine Pd.fcons (RdL.many 0 rfl rfl) ?_ | refine Pd.fcons (RdL.many 1 rfl rfl) ?_ | refine Pd.fcons (RdL.many 2 rfl rfl) ?_ | refine Pd.fcons (RdL.many 3 rfl rfl) ?_ | refine Pd.fcons (RdL.many 4 rfl rfl) ?_ | refine Pd.cons (RdL.one 0 rfl rfl) ?_ | refine Pd.cons (RdL.one 1 rfl rfl) ?_ | refine Pd.cons (RdL.one 2 rfl rfl) ?_ | refine Pd.cons (RdL.one 3 rfl rfl) ?_ | refine Pd.cons (RdL.one 4 rfl rfl) ?_ | refine Pd.cons (RdL.many 0 rfl rfl) ?_ | refine Pd.cons (RdL.many 1 rfl rfl) ?_ | refine Pd.cons (RdL.many 2 rfl rfl) ?_ | refine Pd.cons (RdL.many 3 rfl rfl) ?_ | refine Pd.cons (RdL.many 4 rfl rfl) ?_ | refine Pd.fconsM (MpL.one 0 rfl) ?_ | refine Pd.fconsM (MpL.one 1 rfl) ?_ | refine Pd.fconsM (MpL.one 2 rfl) ?_ | refine Pd.fconsM (MpL.one 3 rfl) ?_ | refine Pd.fconsM (MpL.one 4 rfl) ?_ | refine Pd.consM (MpL.one 0 rfl) ?_ | refine Pd.consM (MpL.one 1 rfl) ?_ | refine Pd.consM (MpL.one 2 rfl) ?_ | refine Pd.consM (MpL.one 3 rfl) ?_ | refine Pd.consM (MpL.one 4 rfl) ?_)))
  · rintro v L' ⟨a1, c1, rfl, hc1, rfl⟩
    refine VA.go (VA.opP (OpT.buildSlice (n := 1) (pv := [(0, .agg (cC x).toArray)]) (cells := cC x) rfl rfl rfl rfl (by decide) (fill_one rfl rfl rfl)) rfl ?_ ?_)
    · rintro v L' ⟨nb, rfl, rfl⟩
      exact (by (try refine Pd.st ?_); (repeat (first | exact Pd.nil | exact Pd.fnil | refine Pd.inner ?_ | refine Pd.skip (by decide +kernel) ?_ | refine Pd.fcons (RdL.one 0 rfl rfl) ?_ | refine Pd.fcons (RdL.one 1 rfl rfl) ?_ | refine Pd.fcons (RdL.one 2 rfl rfl) ?_ | refine Pd.fcons (RdL.one 3 rfl rfl) ?_ | refine Pd.fcons (RdL.one 4 rfl rfl) ?_ | refine Pd.fcons (RdL.many 0 rfl rfl) ?_ | refine Pd.fcons (RdL.many 1 rfl rfl) ?_ | refine Pd.fcons (RdL.many 2 rfl rfl) ?_ | refine Pd.fcons (RdL.many 3 rfl rfl) ?_ | refine Pd.fcons (RdL.many 4 rfl rfl) ?_ | refine Pd.cons (RdL.one 0 rfl rfl) ?_ | refine Pd.cons (RdL.one 1 rfl rfl) ?_ | refine Pd.cons (RdL.one 2 rfl rfl) ?_ | refine Pd.cons (RdL.one 3 rfl rfl) ?_ | refine Pd.cons (RdL.one 4 rfl rfl) ?_ | refine Pd.cons (RdL.many 0 rfl rfl) ?_ | refine Pd.cons (RdL.many 1 rfl rfl) ?_ | refine Pd.cons (RdL.many 2 rfl rfl) ?_ | refine Pd.cons (RdL.many 3 rfl rfl) ?_ | refine Pd.cons (RdL.many 4 rfl rfl) ?_ | refine Pd.fconsM (MpL.one 0 rfl) ?_ | refine Pd.fconsM (MpL.one 1 rfl) ?_ | refine Pd.fconsM (MpL.one 2 rfl) ?_ | refine Pd.fconsM (MpL.one 3 rfl) ?_ | refine Pd.fconsM (MpL.one 4 rfl) ?_ | refine Pd.consM (MpL.one 0 rfl) ?_ | refine Pd.consM (MpL.one 1 rfl) ?_ | refine Pd.consM (MpL.one 2 rfl) ?_ | refine Pd.consM (MpL.one 3 rfl) ?_ | refine Pd.consM (MpL.one 4 rfl) ?_)))
    rintro v L' ⟨nb, rfl, rfl⟩
    refine VA.go (VA.opP (OpT.append (m := 1) (news := cC x) 1 rfl rfl rfl rfl rfl rfl rfl (RdRow.pt 0 rfl rfl rfl) rfl (by show (0 + i + 1) * 40 ≤ _; omega) (by omega)) rfl ?_ ?_)
    · rintro v L' ⟨a2, c2, rfl, hc2, rfl⟩
      exact (by (try refine Pd.st ?_); (repeat (first | exact Pd.nil | exact Pd.fnil | refine Pd.inner ?_ | refine Pd.skip (by decide +kernel) ?_ | refine Pd.fcons (RdL.one 0 rfl rfl) ?_ | refine Pd.fcons (RdL.one 1 rfl rfl) ?_ | refine Pd.fcons (RdL.one 2 rfl rfl) ?_ | refine Pd.fcons (RdL.one 3 rfl rfl) ?_ | refine Pd.fcons (RdL.one 4 rfl rfl) ?_ | refine Pd.fcons (RdL.many 0 rfl rfl) ?_ | refine Pd.fcons (RdL.many 1 rfl rfl) ?_ | refine Pd.fcons (RdL.many 2 rfl rfl) ?_ | refine Pd.fcons (RdL.many 3 rfl rfl) ?_ | refine Pd.fcons (RdL.many 4 rfl rfl) ?_ | refine Pd.cons (RdL.one 0 rfl rfl) ?_ | refine Pd.cons (RdL.one 1 rfl rfl) ?_ | refine Pd.cons (RdL.one 2 rfl rfl) ?_ | refine Pd.cons (RdL.one 3 rfl rfl) ?_ | refine Pd.cons (RdL.one 4 rfl rfl) ?_ | refine Pd.cons (RdL.many 0 rfl rfl) ?_ | refine Pd.cons (RdL.many 1 rfl rfl) ?_ | refine Pd.cons (RdL.many 2 rfl rfl) ?_ | refine Pd.cons (RdL.many 3 rfl rfl) ?_ | refine Pd.cons (RdL.many 4 rfl rfl) ?_ | refine Pd.fconsM (MpL.one 0 rfl) ?_ | refine Pd.fconsM (MpL.one 1 rfl) ?_ | refine Pd.fconsM (MpL.one 2 rfl) ?_ | refine Pd.fconsM (MpL.one 3 rfl) ?_ | refine Pd.fconsM (MpL.one 4 rfl) ?_ | refine Pd.consM (MpL.one 0 rfl) ?_ | refine Pd.consM (MpL.one 1 rfl) ?_ | refine Pd.consM (MpL.one 2 rfl) ?_ | refine Pd.consM (MpL.one 3 rfl) ?_ | refine Pd.consM (MpL.one 4 rfl) ?_)))
    rintro v L' ⟨a2, c2, rfl, hc2, rfl⟩
    refine VA.go (VA.opP (OpT.append (m := r.xs.length - i) (news := flat cC (r.xs.drop i)) 0 rfl rfl rfl rfl rfl rfl rfl (RL.rdFrom (t := 74) cC_len hok 2 rfl hi) (flat_all cC_one _) (by show (0 + i + 1 + (r.xs.length - i)) * 40 ≤ _; omega) (by omega)) rfl ?_ ?_)
    · rintro v L' ⟨a3, c3, rfl, hc3, rfl⟩
      exact (by (try refine Pd.st ?_); (repeat (first | exact Pd.nil | exact Pd.fnil | refine Pd.inner ?_ | refine Pd.skip (by decide +kernel) ?_ | refine Pd.fcons (RdL.one 0 rfl rfl) ?_ | refine Pd.fcons (RdL.one 1 rfl rfl) ?_ | refine Pd.fcons (RdL.one 2 rfl rfl) ?_ | refine Pd.fcons (RdL.one 3 rfl rfl) ?_ | refine Pd.fcons (RdL.one 4 rfl rfl) ?_ | refine Pd.fcons (RdL.many 0 rfl rfl) ?_ | refine Pd.fcons (RdL.many 1 rfl rfl) ?_ | refine Pd.fcons (RdL.many 2 rfl rfl) ?_ | refine Pd.fcons (RdL.many 3 rfl rfl) ?_ | refine Pd.fcons (RdL.many 4 rfl rfl) ?_ | refine Pd.cons (RdL.one 0 rfl rfl) ?_ | refine Pd.cons (RdL.one 1 rfl rfl) ?_ | refine Pd.cons (RdL.one 2 rfl rfl) ?_ | refine Pd.cons (RdL.one 3 rfl rfl) ?_ | refine Pd.cons (RdL.one 4 rfl rfl) ?_ | refine Pd.cons (RdL.many 0 rfl rfl) ?_ | refine Pd.cons (RdL.many 1 rfl rfl) ?_ | refine Pd.cons (RdL.many 2 rfl rfl) ?_ | refine Pd.cons (RdL.many 3 rfl rfl) ?_ | refine Pd.cons (RdL.many 4 rfl rfl) ?_ | refine Pd.fconsM (MpL.one 0 rfl) ?_ | refine Pd.fconsM (MpL.one 1 rfl) ?_ | refine Pd.fconsM (MpL.one 2 rfl) ?_ | refine Pd.fconsM (MpL.one 3 rfl) ?_ | refine Pd.fconsM (MpL.one 4 rfl) ?_ | refine Pd.consM (MpL.one 0 rfl) ?_ | refine Pd.consM (MpL.one 1 rfl) ?_ | refine Pd.consM (MpL.one 2 rfl) ?_ | refine Pd.consM (MpL.one 3 rfl) ?_ | refine Pd.consM (MpL.one 4 rfl) ?_)))
    rintro v L' ⟨a3, c3, rfl, hc3, rfl⟩
    (repeat (first | refine VA.go (VA.nil ?_) | refine VA.go (VA.ld 0 rfl rfl rfl rfl rfl ?_)))
    refine VC.ret (Ret.tmp 4 rfl rfl (Imp.pick 0 (congrArg some e1) Imp.nil).ent ?_)
    rw [e2, ← hx]
    exact ⟨i, a3, c3, hi, rfl, rfl⟩
  · rintro v L' ⟨nb, rfl, rfl⟩
    refine VA.go (VA.opP (OpT.append (m := i) (news := flat cC (r.xs.take i)) 1 rfl rfl rfl rfl rfl rfl rfl (RL.rdHead (t := 74) cC_len hok 2 rfl hi) (flat_all cC_one _) (by show (0 + i) * 40 ≤ _; omega) (by omega)) rfl ?_ ?_)
    · rintro v L' ⟨a1, c1, rfl, hc1, rfl⟩
      exact (by (try refine Pd.st ?_); (repeat (first | exact Pd.nil | exact Pd.fnil | refine Pd.inner ?_ | refine Pd.skip (by decide +kernel) ?_ | refine Pd.fcons (RdL.one 0 rfl rfl) ?_ | refine Pd.fcons (RdL.one 1 rfl rfl) ?_ | refine Pd.fcons (RdL.one 2 rfl rfl) ?_ | refine Pd.fcons (RdL.one 3 rfl rfl) ?_ | refine Pd.fcons (RdL.one 4 rfl rfl) ?_ | refine Pd.fcons (RdL.many 0 rfl rfl) ?_ | refine Pd.fcons (RdL.many 1 rfl rfl) ?_ | refine Pd.fcons (RdL.many 2 rfl rfl) ?_ | refine Pd.fcons (RdL.many 3 rfl rfl) ?_ | refine Pd.fcons (RdL.many 4 rfl rfl) ?_ | refine Pd.cons (RdL.one 0 rfl rfl) ?_ | refine Pd.cons (RdL.one 1 rfl rfl) ?_ | refine Pd.cons (RdL.one 2 rfl rfl) ?_ | refine Pd.cons (RdL.one 3 rfl rfl) ?_ | refine Pd.cons (RdL.one 4 rfl rfl) ?_ | refine Pd.cons (RdL.many 0 rfl rfl) ?_ | refine Pd.cons (RdL.many 1 rfl rfl) ?_ | refine Pd.cons (RdL.many 2 rfl rfl) ?_ | refine Pd.cons (RdL.many 3 rfl rfl) ?_ | refine Pd.cons (RdL.many 4 rfl rfl) ?_ | refine Pd.fconsM (MpL.one 0 rfl) ?_ | refine Pd.fconsM (MpL.one 1 rfl) ?_ | refine Pd.fconsM (MpL.one 2 rfl) ?_ | refine Pd.fconsM (MpL.one 3 rfl) ?_ | refine Pd.fconsM (MpL.one 4 rfl) ?_ | refine Pd.consM (MpL.one 0 rfl) ?_ | refine Pd.consM (MpL.one 1 rfl) ?_ | refine Pd.consM (MpL.one 2 rfl) ?_ | refine Pd.consM (MpL.one 3 rfl) ?_ | refine Pd.consM (MpL.one 4 rfl) ?_)))
    rintro v L' ⟨a1, c1, rfl, hc1, rfl⟩
    refine VA.go (VA.opP (OpT.append (m := 1) (news := cC x) 0 rfl rfl rfl rfl rfl rfl rfl (RdRow.pt 1 rfl rfl rfl) rfl (by show (0 + i + 1) * 40 ≤ _; omega) (by omega)) rfl ?_ ?_)
    · rintro v L' ⟨a2, c2, rfl, hc2, rfl⟩
      exact (by (try refine Pd.st ?_); (repeat (first | exact Pd.nil | exact Pd.fnil | refine Pd.inner ?_ | refine Pd.skip (by decide +kernel) ?_ | refine Pd.fcons (RdL.one 0 rfl rfl) ?_ | refine Pd.fcons (RdL.one 1 rfl rfl) ?_ | refine Pd.fcons (RdL.one 2 rfl rfl) ?_ | refine Pd.fcons (RdL.one 3 rfl rfl) ?_ | refine Pd.fcons (RdL.one 4 rfl rfl) ?_ | refine Pd.fcons (RdL.many 0 rfl rfl) ?_ | refine Pd.fcons (RdL.many 1 rfl rfl) ?_ | refine Pd.fcons (RdL.many 2 rfl rfl) ?_ | refine Pd.fcons (RdL.many 3 rfl rfl) ?_ | refine Pd.fcons (RdL.many 4 rfl rfl) ?_ | refine Pd.cons (RdL.one 0 rfl rfl) ?_ | refine Pd.cons (RdL.one 1 rfl rfl) ?_ | refine Pd.cons (RdL.one 2 rfl rfl) ?_ | refine Pd.cons (RdL.one 3 rfl rfl) ?_ | refine Pd.cons (RdL.one 4 rfl rfl) ?_ | refine Pd.cons (RdL.many 0 rfl rfl) ?_ | refine Pd.cons (RdL.many 1 rfl rfl) ?_ | refine Pd.cons (RdL.many 2 rfl rfl) ?_ | refine Pd.cons (RdL.many 3 rfl rfl) ?_ | refine Pd.cons (RdL.many 4 rfl rfl) ?_ | refine Pd.fconsM (MpL.one 0 rfl) ?_ | refine Pd.fconsM (MpL.one 1 rfl) ?_ | refine Pd.fconsM (MpL.one 2 rfl) ?_ | refine Pd.fconsM (MpL.one 3 rfl) ?_ | refine Pd.fconsM (MpL.one 4 rfl) ?_ | refine Pd.consM (MpL.one 0 rfl) ?_ | refine Pd.consM (MpL.one 1 rfl) ?_ | refine Pd.consM (MpL.one 2 rfl) ?_ | refine Pd.consM (MpL.one 3 rfl) ?_ | refine Pd.consM (MpL.one 4 rfl) ?_)))
    rintro v L' ⟨a2, c2, rfl, hc2, rfl⟩
    refine VA.go (VA.opP (OpT.append (m := r.xs.length - i) (news := flat cC (r.xs.drop i)) 0 rfl rfl rfl rfl rfl rfl rfl (RL.rdFrom (t := 74) cC_len hok 2 rfl hi) (flat_all cC_one _) (by show (0 + i + 1 + (r.xs.length - i)) * 40 ≤ _; omega) (by omega)) rfl ?_ ?_)
    · rintro v L' ⟨a3, c3, rfl, hc3, rfl⟩
      exact (by (try refine Pd.st ?_); (repeat (first | exact Pd.nil | exact Pd.fnil | refine Pd.inner ?_ | refine Pd.skip (by decide +kernel) ?_ | refine Pd.fcons (RdL.one 0 rfl rfl) ?_ | refine Pd.fcons (RdL.one 1 rfl rfl) ?_ | refine Pd.fcons (RdL.one 2 rfl rfl) ?_ | refine Pd.fcons (RdL.one 3 rfl rfl) ?_ | refine Pd.fcons (RdL.one 4 rfl rfl) ?_ | refine Pd.fcons (RdL.many 0 rfl rfl) ?_ | refine Pd.fcons (RdL.many 1 rfl rfl) ?_ | refine Pd.fcons (RdL.many 2 rfl rfl) ?_ | refine Pd.fcons (RdL.many 3 rfl rfl) ?_ | refine Pd.fcons (RdL.many 4 rfl rfl) ?_ | refine Pd.cons (RdL.one 0 rfl rfl) ?_ | refine Pd.cons (RdL.one 1 rfl rfl) ?_ | refine Pd.cons (RdL.one 2 rfl rfl) ?_ | refine Pd.cons (RdL.one 3 rfl rfl) ?_ | refine Pd.cons (RdL.one 4 rfl rfl) ?_ | refine Pd.cons (RdL.many 0 rfl rfl) ?_ | refine Pd.cons (RdL.many 1 rfl rfl) ?_ | refine Pd.cons (RdL.many 2 rfl rfl) ?_ | refine Pd.cons (RdL.many 3 rfl rfl) ?_ | refine Pd.cons (RdL.many 4 rfl rfl) ?_ | refine Pd.fconsM (MpL.one 0 rfl) ?_ | refine Pd.fconsM (MpL.one 1 rfl) ?_ | refine Pd.fconsM (MpL.one 2 rfl) ?_ | refine Pd.fconsM (MpL.one 3 rfl) ?_ | refine Pd.fconsM (MpL.one 4 rfl) ?_ | refine Pd.consM (MpL.one 0 rfl) ?_ | refine Pd.consM (MpL.one 1 rfl) ?_ | refine Pd.consM (MpL.one 2 rfl) ?_ | refine Pd.consM (MpL.one 3 rfl) ?_ | refine Pd.consM (MpL.one 4 rfl) ?_)))
    rintro v L' ⟨a3, c3, rfl, hc3, rfl⟩
    (repeat (first | refine VA.go (VA.nil ?_) | refine VA.go (VA.ld 0 rfl rfl rfl rfl rfl ?_)))
    refine VC.ret (Ret.tmp 4 rfl rfl (Imp.pick 0 (congrArg some e1) Imp.nil).ent ?_)
    rw [e2, ← hx]
    exact ⟨i, a3, c3, hi, rfl, rfl⟩
end Go.Proofs.YthabecjplpomhaaDoor.Br
