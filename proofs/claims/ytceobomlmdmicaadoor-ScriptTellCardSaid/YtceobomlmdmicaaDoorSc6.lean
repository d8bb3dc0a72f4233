/- Layer 24: a text is read. No condition but what the listed variables hold. -/
import Derived.Test.YtceobomlmdmicaaDoorSc5
namespace Go.Proofs.YtceobomlmdmicaaDoor.Scr
open Go Go.Proofs.YtceobomlmdmicaaDoor.Vg Go.Proofs.YtceobomlmdmicaaDoor.T Go.Proofs.YtceobomlmdmicaaDoor.Api Go.Proofs.YtceobomlmdmicaaDoor.LibC
set_option linter.unusedSimpArgs false
set_option linter.unusedVariables false
attribute [local irreducible] VO VC VA

def getR : Nat → List UInt8 → List DoM → List DoM × Int × Int
  | 0, _, acc => (acc, 0, 0)
  | f + 1, s, acc => if s = [] then (acc, 0, 0) else if (Lib.cut s [10]).2.2 then match lineR (toB (Lib.cut s [10]).1) with
      | some d => getR f (Lib.cut s [10]).2.1 (acc ++ [d])
      | none => ([], (acc.length : Int) + 1, 10)
    else ([], (acc.length : Int) + 1, 10)
def getM (s : ByteArray) : List DoM × Int × Int := getR (s.size + 1) s.data.toList []
theorem Ret.tmp3 {X : Cx} {fn : Func} {R : Value → List HP → Prop} {e : Env} {L : List HP} (t u r : Nat) (h : fn.results = #[.tmp t, .tmp u, .tmp r]) {v x y : Value} (hv : Vg.look e t = some v) (hx : Vg.look e u = some x) (hy : Vg.look e r = some y) {L' : List HP} (he : Ent X L L') (hR : R (.tuple #[v, x, y]) L') : Ret X fn R e L :=
  ⟨_, L', ⟨fun a w ha hw => by
    have h1 := ha.at_ t _ hv
    have h2 := ha.at_ u _ hx
    have h3 := ha.at_ r _ hy
    simp only [Array.getD_eq_getD_getElem?] at h1 h2 h3
    simp [results, h, h1, h2, h3]⟩, he, hR⟩
theorem cut_len {s : List UInt8} (h : (Lib.cut s [10]).2.2 = true) (hs : s ≠ []) : (Lib.cut s [10]).2.1.length < s.length ∧ (Lib.cut s [10]).1.length ≤ s.length := by
  unfold Lib.cut at h ⊢
  have : 0 < s.length := List.length_pos_iff.2 hs
  split
  · simp only [List.length_drop, List.length_take, List.length_cons, List.length_nil]; omega
  · rename_i h1; rw [if_neg h1] at h; cases h
theorem cut_no {s : List UInt8} : (Lib.cut s [10]).1.length ≤ s.length := by
  unfold Lib.cut
  split
  · simp only [List.length_take]; omega
  · exact Nat.le_refl _
theorem toB_list (l : List UInt8) : (toB l).data.toList = l := by simp [toB]

set_option maxRecDepth 100000 in
set_option maxHeartbeats 2000000 in
theorem get_spec (Fr : Nat → Prop) (w : World) (s : ByteArray) (hs : s.size ≤ 1000000) (hG : GlobF Fr w) (hK : KindsF Fr w) :
    Tri Tryd.prog 11 [.string s] Fr w [] (fun v L => ∃ a c, v = .tuple #[.slice a (getM s).1.length c, .int .i64 (getM s).2.1, .int .i64 (getM s).2.2] ∧ L = [slH 30 8 a (getM s).1.length c (flat doC (getM s).1)]) := by
  refine Tri.of 39 Tryd.func11 rfl (by kernel_rfl) tabOk rfl rfl ?_
  (repeat (first | refine VC.seq ?_ | refine VC.region ?_ | refine VC.block ?_ | refine VC.label ?_ | refine VC.scope ?_ | refine VO.go (VO.nil ?_) | refine VO.go (VO.ld 0 rfl rfl rfl rfl ?_)))
  refine VC.loop (σ := List DoM × List UInt8 × Nat × Option Addr × Nat) (fun x => [(0, .string (toB x.2.1)), (2, .slice x.2.2.2.1 x.1.length x.2.2.2.2), (3, .int .i64 0), (4, .int .i64 0), (5, .int .i64 ((x.1.length + 1 : Nat) : Int))]) (fun x => [slH 30 8 x.2.2.2.1 x.1.length x.2.2.2.2 (flat doC x.1)])
    (fun x => x.1.length + x.2.1.length ≤ s.size ∧ x.2.1.length < x.2.2.1 ∧ getM s = getR x.2.2.1 x.2.1 x.1) (fun x => x.2.1.length) ([], s.data.toList, s.size + 1, none, 0)
    ⟨by dsimp only; rw [data_len]; simp, by dsimp only; rw [data_len]; omega, rfl⟩ (Sub.cons (by rw [toB_data]; rfl) (Sub.cons rfl (Sub.cons rfl (Sub.cons rfl (Sub.cons rfl (Sub.nil _)))))) (Imp.slNil Imp.nil).ent ?_
  rintro ⟨acc, t, f, a1, c1⟩ ⟨hlen, hf, hJ⟩
  dsimp only at hlen hf hJ ⊢
  obtain ⟨f, rfl⟩ : ∃ k, f = k + 1 := ⟨f - 1, by omega⟩
  (repeat (first | refine VC.seq ?_ | refine VC.region ?_ | refine VC.block ?_ | refine VC.label ?_ | refine VC.scope ?_ | refine VO.go (VO.nil ?_) | refine VO.go (VO.ld 0 rfl rfl rfl rfl ?_)))
  refine VC.cond rfl (fun h1 => VC.skip ?_) (fun h1 => VC.exit ?_)
  · have hne : t ≠ [] := fun e => by subst e; rw [strEq] at h1; simp [toB] at h1
    rw [getR, if_neg hne] at hJ
    have htl : (toB t).size = t.length := toB_size t
    have hcl := cut_no (s := t)
    (repeat (first | refine VC.seq ?_ | refine VC.region ?_ | refine VC.block ?_ | refine VC.label ?_ | refine VC.scope ?_ | refine VO.go (VO.nil ?_) | refine VO.go (VO.ld 0 rfl rfl rfl rfl ?_)))
    refine VO.go (VO.callV' (fun Fr w hF hw _ => cut_spec Fr w (toB t) ⟨#[10]⟩ (by rw [htl]; omega) (GlobF.st (X := ⟨Tryd.prog, tab, tabOk, 39, _, _⟩) hG hF hw)) rfl ?_)
    rw [toB_list, show (⟨#[10]⟩ : ByteArray).data.toList = [10] from rfl]
    (repeat (first | refine VC.seq ?_ | refine VC.region ?_ | refine VC.block ?_ | refine VC.label ?_ | refine VC.scope ?_ | refine VO.go (VO.nil ?_) | refine VO.go (VO.ld 0 rfl rfl rfl rfl ?_)))
    refine VO.go (VO.call (Lc := []) (fun Fr w hF hw _ => getLine_spec Fr w (toB (Lib.cut t [10]).1) (by rw [toB_size]; omega) (GlobF.st (X := ⟨Tryd.prog, tab, tabOk, 39, _, _⟩) hG hF hw) (KindsF.st (X := ⟨Tryd.prog, tab, tabOk, 39, _, _⟩) hK hF hw)) rfl rfl ?_)
    rintro _ _ ⟨rfl, hcase⟩
    cases hend : (Lib.cut t [10]).2.2 with
    | false =>
      rw [hend, if_neg (by simp)] at hJ
      rcases hcase with ⟨d, hd, rfl⟩ | ⟨hd, rfl⟩ <;>
      · (repeat (first | refine VC.seq ?_ | refine VC.region ?_ | refine VC.block ?_ | refine VC.label ?_ | refine VC.scope ?_ | refine VO.go (VO.nil ?_) | refine VO.go (VO.ld 0 rfl rfl rfl rfl ?_)))
        refine VO.go (VO.alloc rfl fun db => ?_)
        first | refine VO.go (VO.stA (vs := doC doZ) 0 rfl rfl rfl rfl (Nat.le_refl _) rfl rfl rfl ?_) | refine VO.go (VO.stA (vs := doC _) 0 rfl rfl rfl rfl (Nat.le_refl _) rfl rfl rfl ?_)
        (repeat (first | refine VC.seq ?_ | refine VC.region ?_ | refine VC.block ?_ | refine VC.label ?_ | refine VC.scope ?_ | refine VO.go (VO.nil ?_) | refine VO.go (VO.ld 0 rfl rfl rfl rfl ?_)))
        refine VO.go (VO.yes 28 true rfl rfl ?_)
        (repeat (first | refine VC.seq ?_ | refine VC.region ?_ | refine VC.block ?_ | refine VC.label ?_ | refine VC.scope ?_ | refine VO.go (VO.nil ?_) | refine VO.go (VO.ld 0 rfl rfl rfl rfl ?_) | refine VO.go (VO.offU rfl rfl rfl ?_)))
        refine VC.condT rfl ?_
        (repeat (first | refine VC.seq ?_ | refine VC.region ?_ | refine VC.block ?_ | refine VC.label ?_ | refine VC.scope ?_ | refine VO.go (VO.nil ?_) | refine VO.go (VO.ld 0 rfl rfl rfl rfl ?_)))
        exact VC.ret (Ret.tmp3 2 3 4 rfl rfl rfl rfl (Imp.slNil Imp.nil).ent ⟨none, 0, by rw [hJ]; rfl, by rw [hJ]; rfl⟩)
    | true =>
      rw [hend, if_pos rfl] at hJ
      have hct := cut_len hend hne
      rcases hcase with ⟨d, hd, rfl⟩ | ⟨hd, rfl⟩
      · rw [hd] at hJ
        (repeat (first | refine VC.seq ?_ | refine VC.region ?_ | refine VC.block ?_ | refine VC.label ?_ | refine VC.scope ?_ | refine VO.go (VO.nil ?_) | refine VO.go (VO.ld 0 rfl rfl rfl rfl ?_)))
        refine VO.go (VO.alloc rfl fun db => ?_)
        refine VO.go (VO.stA (vs := doC d) 0 rfl rfl rfl rfl (Nat.le_refl _) rfl rfl rfl ?_)
        (repeat (first | refine VC.seq ?_ | refine VC.region ?_ | refine VC.block ?_ | refine VC.label ?_ | refine VC.scope ?_ | refine VO.go (VO.nil ?_) | refine VO.go (VO.ld 0 rfl rfl rfl rfl ?_)))
        refine VO.go (VO.yes 28 false rfl rfl ?_)
        (repeat (first | refine VC.seq ?_ | refine VC.region ?_ | refine VC.block ?_ | refine VC.label ?_ | refine VC.scope ?_ | refine VO.go (VO.nil ?_) | refine VO.go (VO.ld 0 rfl rfl rfl rfl ?_) | refine VO.go (VO.offU rfl rfl rfl ?_)))
        refine VC.condF rfl (VC.skip ?_)
        (repeat (first | refine VC.seq ?_ | refine VC.region ?_ | refine VC.block ?_ | refine VC.label ?_ | refine VC.scope ?_ | refine VO.go (VO.nil ?_) | refine VO.go (VO.ld 0 rfl rfl rfl rfl ?_)))
        refine VO.go (VO.ldA 0 (doC d) rfl rfl rfl rfl ?_)
        refine VO.go (VO.buildSlice (n := 1) (pv := [(0, .agg (doC d).toArray)]) (doC d) rfl rfl rfl rfl (by decide) (fill_one rfl rfl rfl) fun nb => ?_)
        refine VO.go (VO.append (m := 1) (news := doC d) 2 rfl rfl rfl rfl rfl rfl rfl (RdRow.pt 0 rfl rfl rfl) rfl (by show (acc.length + 1) * 80 ≤ _; omega) (by omega) fun a2 c2 hc2 => ?_)
        (repeat (first | refine VC.seq ?_ | refine VC.region ?_ | refine VC.block ?_ | refine VC.label ?_ | refine VC.scope ?_ | refine VO.go (VO.nil ?_) | refine VO.go (VO.ld 0 rfl rfl rfl rfl ?_)))
        refine VO.go (VO.add rfl rfl (by omega) (by omega) ?_)
        (repeat (first | refine VC.seq ?_ | refine VC.region ?_ | refine VC.block ?_ | refine VC.label ?_ | refine VC.scope ?_ | refine VO.go (VO.nil ?_) | refine VO.go (VO.ld 0 rfl rfl rfl rfl ?_)))
        have hL : (acc ++ [d]).length = acc.length + 1 := by simp
        have hF : flat doC (acc ++ [d]) = flat doC acc ++ doC d := by simp [flat_append, flat_cons, flat_nil]
        refine ⟨(acc ++ [d], (Lib.cut t [10]).2.1, f, a2, c2), ⟨by dsimp only; omega, by dsimp only; omega, hJ⟩, by dsimp only; omega, Sub.cons rfl (Sub.cons (by rw [hL]; rfl) (Sub.cons rfl (Sub.cons rfl (Sub.cons (by rw [hL]; rfl) (Sub.nil _))))), ?_⟩
        dsimp only
        rw [hL, hF]
        exact (Imp.pick 0 rfl Imp.nil).ent
      · rw [hd] at hJ
        (repeat (first | refine VC.seq ?_ | refine VC.region ?_ | refine VC.block ?_ | refine VC.label ?_ | refine VC.scope ?_ | refine VO.go (VO.nil ?_) | refine VO.go (VO.ld 0 rfl rfl rfl rfl ?_)))
        refine VO.go (VO.alloc rfl fun db => ?_)
        refine VO.go (VO.stA (vs := doC doZ) 0 rfl rfl rfl rfl (Nat.le_refl _) rfl rfl rfl ?_)
        (repeat (first | refine VC.seq ?_ | refine VC.region ?_ | refine VC.block ?_ | refine VC.label ?_ | refine VC.scope ?_ | refine VO.go (VO.nil ?_) | refine VO.go (VO.ld 0 rfl rfl rfl rfl ?_)))
        refine VO.go (VO.yes 28 false rfl rfl ?_)
        (repeat (first | refine VC.seq ?_ | refine VC.region ?_ | refine VC.block ?_ | refine VC.label ?_ | refine VC.scope ?_ | refine VO.go (VO.nil ?_) | refine VO.go (VO.ld 0 rfl rfl rfl rfl ?_) | refine VO.go (VO.offU rfl rfl rfl ?_)))
        refine VC.condT rfl ?_
        (repeat (first | refine VC.seq ?_ | refine VC.region ?_ | refine VC.block ?_ | refine VC.label ?_ | refine VC.scope ?_ | refine VO.go (VO.nil ?_) | refine VO.go (VO.ld 0 rfl rfl rfl rfl ?_)))
        exact VC.ret (Ret.tmp3 2 3 4 rfl rfl rfl rfl (Imp.slNil Imp.nil).ent ⟨none, 0, by rw [hJ]; rfl, by rw [hJ]; rfl⟩)
  · have he : t = [] := by
      cases t with
      | nil => rfl
      | cons x t => exfalso; revert h1; rw [strEq]; simp [toB]
    subst he
    rw [getR, if_pos rfl] at hJ
    rw [hJ]
    (repeat (first | refine VC.seq ?_ | refine VC.region ?_ | refine VC.block ?_ | refine VC.label ?_ | refine VC.scope ?_ | refine VO.go (VO.nil ?_) | refine VO.go (VO.ld 0 rfl rfl rfl rfl ?_)))
    exact VC.ret (Ret.tmp3 2 3 4 rfl rfl rfl rfl Ent.refl ⟨a1, c1, rfl, rfl⟩)
end Go.Proofs.YtceobomlmdmicaaDoor.Scr
