/- Rings: copies. No condition. -/
import Derived.Test.YtoinocihlfmnnaaRing
namespace Go.Proofs.Ytoinocihlfmnnaa.Ring
open Go Go.Proofs.Ytoinocihlfmnnaa.Vg Go.Proofs.Ytoinocihlfmnnaa.T Go.Proofs.Ytoinocihlfmnnaa.Api
set_option linter.unusedSimpArgs false
set_option linter.unusedVariables false
attribute [local irreducible] VO VC VA

structure CopyI (pl : List FM) (x : Nat × List FM) : Prop where
  le : x.1 ≤ pl.length
  len : x.2.length = pl.length
  same : ∀ j, j < x.1 → (x.2[j]?).map Prod.fst = (pl[j]?).map Prod.fst

set_option maxRecDepth 100000 in
theorem copy_spec (Fr : Nat → Prop) (w : World) {p : Nat} {q : List FrameM} {cap : Nat} (h : SatIn Fr [ringH p q cap] w) : Tri Try.prog 54 [.pointer (some ⟨p, 0, none⟩)] Fr w [] (fun v L => ∃ p', v = .pointer (some ⟨p', 0, none⟩) ∧ L = [ringH p' q cap]) := by
  obtain ⟨s, h⟩ := RingIn.of h
  have hb := h.ring
  have hp := h.places
  have hpl := h.ok.len
  have hc0 := h.ok.cap0
  have hc1 := h.ok.cap1
  refine Tri.of 44 Try.func54 rfl (by kernel_rfl) tabOk rfl rfl ?_
  (repeat (first | refine VC.seq ?_ | refine VC.region ?_ | refine VC.block ?_ | refine VC.label ?_ | refine VC.scope ?_ | refine VO.go (VO.nil ?_) | refine VO.go (VO.ld 0 rfl rfl rfl rfl ?_)))
  refine VO.go (VO.callV' (fun Fr w hF hs _ => none_spec Fr w (hb.of hF hs)) rfl (VO.go (VO.nil ?_)))
  refine VC.condF rfl (VC.skip ?_)
  refine VC.seq (VC.draw (ts 0 5 (ts 6 8 (.only 5 (.take 14 (.only 15 (.take 16 .nil)))))) (by kernel_rfl) (by kernel_rfl) ?_)
  (repeat (first | refine VA.go (VA.nil ?_) | refine VA.go (VA.load rfl rfl rfl (RdL.blk hb rfl) ?_)))
  refine VA.go (VA.opP (OpT.makeSlice cap rfl rfl rfl rfl rfl (by omega) (by show 288 * cap ≤ _; omega)) rfl ?_ ?_)
  · rintro _ _ ⟨nb, rfl, rfl⟩
    exact (by (try refine Pd.st ?_); (repeat (first | exact Pd.nil | exact Pd.fnil | refine Pd.inner ?_ | refine Pd.skip (by decide +kernel) ?_ | refine Pd.fcons (RdL.blk hb rfl) ?_ | refine Pd.fcons (hb) ?_ | refine Pd.cons (RdL.blk hb rfl) ?_ | refine Pd.cons (hb) ?_)))
  rintro _ _ ⟨nb, rfl, rfl⟩
  have hz : (List.replicate cap T.t50.zs).flatten = flat fmc (List.replicate cap fmz) := flat_replicate (c := fmc) cap fmz
  rw [hz]
  refine VA.go (VA.light rfl (light_build (pv := [(0, .slice (some ⟨nb, 0, none⟩) cap cap), (1, .int .i64 s.first), (2, .int .i64 q.length)]) [.slice (some ⟨nb, 0, none⟩) cap cap, .int .i64 s.first, .int .i64 q.length] rfl rfl rfl rfl rfl) ?_)
  refine VA.go (VA.opP (OpT.box (vs := [.slice (some ⟨nb, 0, none⟩) cap cap, .int .i64 s.first, .int .i64 q.length]) rfl rfl) rfl ?_ ?_)
  · rintro _ _ ⟨np, rfl, rfl⟩
    exact (by (try refine Pd.st ?_); (repeat (first | exact Pd.nil | exact Pd.fnil | refine Pd.inner ?_ | refine Pd.skip (by decide +kernel) ?_ | refine Pd.fcons (RdL.blk hb rfl) ?_ | refine Pd.fcons (hb) ?_ | refine Pd.cons (RdL.blk hb rfl) ?_ | refine Pd.cons (hb) ?_)))
  rintro _ _ ⟨np, rfl, rfl⟩
  (repeat (first | refine VA.go (VA.nil ?_) | refine VA.go (VA.ld 0 rfl rfl rfl rfl rfl ?_)))
  (repeat (first | refine VC.seq ?_ | refine VC.region ?_ | refine VC.block ?_ | refine VC.label ?_ | refine VC.scope ?_ | refine VO.go (VO.nil ?_) | refine VO.go (VO.load rfl rfl (RdL.blk hb rfl) ?_)))
  refine VC.loop (σ := Nat × List FM) (fun x => [(3, .pointer (some ⟨np, 0, none⟩)), (27, .slice (some ⟨s.pb, 0, none⟩) cap cap), (28, .int .i64 cap), (29, .int .i64 x.1)]) (fun x => [pt np [.slice (some ⟨nb, 0, none⟩) cap cap, .int .i64 s.first, .int .i64 q.length] 107, pt nb (flat fmc x.2) 50]) (CopyI s.pl) (fun x => 64 - x.1) (0, List.replicate cap fmz) ⟨Nat.zero_le _, by simpa using hpl.symm, fun j hj => by omega⟩ (Sub.cons rfl (Sub.cons rfl (Sub.cons rfl (Sub.cons rfl (Sub.nil _))))) Ent.refl ?_
  rintro ⟨i, cl⟩ ⟨hi, hlen, hsame⟩
  dsimp only at hi hlen hsame ⊢
  (repeat (first | refine VC.seq ?_ | refine VC.region ?_ | refine VC.block ?_ | refine VC.label ?_ | refine VC.scope ?_ | refine VO.go (VO.nil ?_) | refine VO.go (VO.ld 0 rfl rfl rfl rfl ?_)))
  refine VC.condP rfl (fun h1 => ?_) (fun h1 => ?_)
  · have hi2 : i < cap := by omega
    have hx := List.getElem?_eq_getElem (show i < s.pl.length by omega)
    generalize s.pl[i] = f at hx
    have hrow : ((flat fmc s.pl).drop (0 + i * 29)).take 29 = fmc f := by
      have := flat_row fmc_len hx []
      rwa [List.append_nil, ← Nat.zero_add (_ * 29)] at this
    refine VC.skip ?_
    (repeat (first | refine VC.seq ?_ | refine VC.region ?_ | refine VC.block ?_ | refine VC.label ?_ | refine VC.scope ?_ | refine VO.go (VO.nil ?_) | refine VO.go (VO.ld 0 rfl rfl rfl rfl ?_)))
    refine VO.go (VO.light (light_idx i rfl rfl rfl rfl rfl rfl hi2) ?_)
    refine VO.go (VO.load rfl rfl (RdL.blkA hp hrow) (VO.go (VO.alloc rfl fun eb => VO.go (VO.stA (vs := fmc f) (cs' := fmc f) 0 rfl rfl rfl rfl (Nat.le_refl _) rfl rfl rfl (VO.go (VO.nil ?_))))))
    refine VC.draw (ts 0 6 (.only 6 (.take 7 (.only 8 .nil)))) (by kernel_rfl) (by kernel_rfl) ?_
    refine VA.go (VA.ld 1 rfl rfl rfl rfl rfl (VA.go (VA.ldA 0 (fmc f) rfl rfl rfl rfl rfl ?_)))
    refine VA.go (VA.callP (fun Fr w hF hs _ => own_spec Fr w f) rfl rfl (by (try refine Pd.st ?_); (repeat (first | exact Pd.nil | exact Pd.fnil | refine Pd.inner ?_ | refine Pd.skip (by decide +kernel) ?_ | refine Pd.fcons (RdL.one 0 rfl rfl) ?_ | refine Pd.fcons (RdL.one 1 rfl rfl) ?_ | refine Pd.fcons (RdL.many 0 rfl rfl) ?_ | refine Pd.fcons (RdL.many 1 rfl rfl) ?_ | refine Pd.cons (RdL.one 0 rfl rfl) ?_ | refine Pd.cons (RdL.one 1 rfl rfl) ?_ | refine Pd.cons (RdL.many 0 rfl rfl) ?_ | refine Pd.cons (RdL.many 1 rfl rfl) ?_))) ?_)
    rintro _ ⟨m, rfl⟩
    refine VA.go (VA.light rfl (light_idx i rfl rfl rfl rfl rfl rfl hi2) ?_)
    have hw := flat_set fmc_len (f.1, m) [] (i := i) (l := cl) (by omega)
    rw [List.append_nil, List.append_nil, ← Nat.zero_add (_ * 29)] at hw
    refine VA.go (VA.stA (vs := fmc (f.1, m)) 2 rfl rfl rfl rfl rfl ?_ hw rfl rfl (by (try refine Pd.st ?_); (repeat (first | exact Pd.nil | exact Pd.fnil | refine Pd.inner ?_ | refine Pd.skip (by decide +kernel) ?_ | refine Pd.fcons (RdL.one 0 rfl rfl) ?_ | refine Pd.fcons (RdL.one 1 rfl rfl) ?_ | refine Pd.fcons (RdL.many 0 rfl rfl) ?_ | refine Pd.fcons (RdL.many 1 rfl rfl) ?_ | refine Pd.cons (RdL.one 0 rfl rfl) ?_ | refine Pd.cons (RdL.one 1 rfl rfl) ?_ | refine Pd.cons (RdL.many 0 rfl rfl) ?_ | refine Pd.cons (RdL.many 1 rfl rfl) ?_))) ?_)
    · rw [flat_len fmc_len, hlen, hpl, fmc_len]; show 0 + i * 29 + 29 ≤ cap * 29; omega
    (repeat (first | refine VA.go (VA.nil ?_) | refine VA.go (VA.ld 0 rfl rfl rfl rfl rfl ?_)))
    (repeat (first | refine VC.seq ?_ | refine VC.region ?_ | refine VC.block ?_ | refine VC.label ?_ | refine VC.scope ?_ | refine VO.go (VO.nil ?_) | refine VO.go (VO.ld 0 rfl rfl rfl rfl ?_)))
    refine VO.go (VO.add rfl rfl (by omega) (by omega) ?_)
    (repeat (first | refine VC.seq ?_ | refine VC.region ?_ | refine VC.block ?_ | refine VC.label ?_ | refine VC.scope ?_ | refine VO.go (VO.nil ?_) | refine VO.go (VO.ld 0 rfl rfl rfl rfl ?_)))
    refine ⟨(i + 1, cl.set i (f.1, m)), ⟨by show i + 1 ≤ _; omega, by simpa using hlen, fun j hj => ?_⟩, by dsimp only; omega, Sub.cons rfl (Sub.cons rfl (Sub.cons rfl (Sub.cons rfl (Sub.nil _)))), (Imp.app (L := [_]) (M := []) Imp.nil Imp.refl).ent⟩
    dsimp only at hj ⊢
    by_cases hij : i = j
    · subst hij
      rw [List.getElem?_set_self (by omega), hx]; rfl
    · rw [List.getElem?_set_ne hij]; exact hsame j (by omega)
  · have hi2 : i = cap := by omega
    subst hi2
    refine VC.exit ?_
    (repeat (first | refine VC.seq ?_ | refine VC.region ?_ | refine VC.block ?_ | refine VC.label ?_ | refine VC.scope ?_ | refine VO.go (VO.nil ?_) | refine VO.go (VO.ld 0 rfl rfl rfl rfl ?_)))
    refine VC.ret (Ret.tmp 2 rfl rfl ?_ ⟨np, rfl, rfl⟩)
    refine (Imp.ring (M := []) ⟨nb, cl, s.first⟩ ⟨by rw [hlen]; exact hpl, hc0, hc1, h.ok.first, h.ok.qlen, fun j hj => ?_⟩ Imp.refl).ent
    have hlt : (s.first + j) % i < i := Nat.mod_lt _ hc0
    rw [hsame _ hlt]
    exact h.ok.at_ j hj
end Go.Proofs.Ytoinocihlfmnnaa.Ring
