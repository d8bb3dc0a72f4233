/- BruteSerial, the law. No condition but the table of powers of ten. -/
import Derived.Test.YthabecjplpomhaaDoorBrT
namespace Go.Proofs.YthabecjplpomhaaDoor.Br
open Go Go.Proofs.YthabecjplpomhaaDoor.Vg Go.Proofs.YthabecjplpomhaaDoor.T Go.Proofs.YthabecjplpomhaaDoor.Api Go.Proofs.YthabecjplpomhaaDoor.Kv Go.Proofs.YthabecjplpomhaaDoor.LibC
set_option linter.unusedSimpArgs false
set_option linter.unusedVariables false
attribute [local irreducible] VO VC VA

set_option maxRecDepth 100000 in
set_option maxHeartbeats 1000000 in
theorem bserial_spec (Fr : Nat → Prop) (w : World) {a : Option Addr} {cap : Nat} {xs : List SmM} (h : RwIn smC 9 Fr w a xs) (hl : xs.length ≤ 9223372036854775807) (hok : ∀ s ∈ xs, s.Ok) (u : Int) (hu : isB u) (hT : TabF Fr w) :
    Tri Tryd.prog 5 [.slice a xs.length cap, .int .u8 u] Fr w [] (fun v L => v = .bool true ∧ L = []) := by
  refine Tri.of 65 Tryd.func5 rfl (by kernel_rfl) tabOk rfl rfl ?_
  (repeat (first | refine VC.seq ?_ | refine VC.region ?_ | refine VC.block ?_ | refine VC.label ?_ | refine VC.scope ?_ | refine VO.go (VO.nil ?_) | refine VO.go (VO.ld 0 rfl rfl rfl rfl ?_)))
  refine VC.condP rfl (fun h1 => ?_) (fun h1 => VC.skip ?_)
  · (repeat (first | refine VC.seq ?_ | refine VC.region ?_ | refine VC.block ?_ | refine VC.label ?_ | refine VC.scope ?_ | refine VO.go (VO.nil ?_) | refine VO.go (VO.ld 0 rfl rfl rfl rfl ?_)))
    refine VO.go (VO.callV' (fun Fr w hF hs _ => found_spec Fr w (TabF.st rfl hT hF hs)) rfl ?_)
    (repeat (first | refine VC.seq ?_ | refine VC.region ?_ | refine VC.block ?_ | refine VC.label ?_ | refine VC.scope ?_ | refine VO.go (VO.nil ?_) | refine VO.go (VO.ld 0 rfl rfl rfl rfl ?_)))
    exact VC.ret (Ret.tmp 4 rfl rfl Imp.nil.ent ⟨rfl, rfl⟩)
  have hl7 : xs.length ≤ 7 := by omega
  (repeat (first | refine VC.seq ?_ | refine VC.region ?_ | refine VC.block ?_ | refine VC.label ?_ | refine VC.scope ?_ | refine VO.go (VO.nil ?_) | refine VO.go (VO.ld 0 rfl rfl rfl rfl ?_)))
  refine VO.go (VO.call (Lc := []) (fun Fr w hF hs hS => serial_spec Fr w (h.of hF hs) hl7 hok) rfl rfl ?_)
  rintro _ _ ⟨l, S, n, a', c', hlen, hI, rfl, rfl⟩
  rw [← hlen] at hl7
  obtain ⟨hlin, hchk⟩ := hI.yes (by omega)
  (repeat (first | refine VC.seq ?_ | refine VC.region ?_ | refine VC.block ?_ | refine VC.label ?_ | refine VC.scope ?_ | refine VO.go (VO.nil ?_) | refine VO.go (VO.ld 0 rfl rfl rfl rfl ?_)))
  refine VO.go (VO.callV' (fun Fr w hF hs hS => lin_at (l := l) (b := true) (c := 0) Fr w (RwIn.sl recC_len (hS.at_ 0 rfl)) rfl (by omega) (TabF.st rfl hT hF hs) hlin hchk) rfl ?_)
  (repeat (first | refine VC.seq ?_ | refine VC.region ?_ | refine VC.block ?_ | refine VC.label ?_ | refine VC.scope ?_ | refine VO.go (VO.nil ?_) | refine VO.go (VO.ld 0 rfl rfl rfl rfl ?_)))
  refine VO.go (VO.yes 24 false rfl rfl ?_)
  (repeat (first | refine VC.seq ?_ | refine VC.region ?_ | refine VC.block ?_ | refine VC.label ?_ | refine VC.scope ?_ | refine VO.go (VO.nil ?_) | refine VO.go (VO.ld 0 rfl rfl rfl rfl ?_)))
  refine VC.condF rfl (VC.skip ?_)
  (repeat (first | refine VC.seq ?_ | refine VC.region ?_ | refine VC.block ?_ | refine VC.label ?_ | refine VC.scope ?_ | refine VO.go (VO.nil ?_) | refine VO.go (VO.ld 0 rfl rfl rfl rfl ?_)))
  refine VC.cond (t := decide ((l.length : Int) = 0)) (by rfl) (fun h2 => ?_) (fun h2 => VC.skip ?_)
  · (repeat (first | refine VC.seq ?_ | refine VC.region ?_ | refine VC.block ?_ | refine VC.label ?_ | refine VC.scope ?_ | refine VO.go (VO.nil ?_) | refine VO.go (VO.ld 0 rfl rfl rfl rfl ?_)))
    refine VO.go (VO.callV' (fun Fr w hF hs _ => found_spec Fr w (TabF.st rfl hT hF hs)) rfl ?_)
    (repeat (first | refine VC.seq ?_ | refine VC.region ?_ | refine VC.block ?_ | refine VC.label ?_ | refine VC.scope ?_ | refine VO.go (VO.nil ?_) | refine VO.go (VO.ld 0 rfl rfl rfl rfl ?_)))
    exact VC.ret (Ret.tmp 4 rfl rfl Imp.nil.ent ⟨rfl, rfl⟩)
  have h2 := of_decide_eq_false h2
  have hpos : 0 < l.length := by omega
  obtain ⟨k, hk, hkl⟩ : ∃ k : Nat, u % (l.length : Int) = (k : Int) ∧ k < l.length := ⟨(u % (l.length : Int)).toNat, by have := Int.emod_nonneg u (b := (l.length : Int)) (by omega); omega, by have := Int.emod_nonneg u (b := (l.length : Int)) (by omega); have := Int.emod_lt_of_pos u (b := (l.length : Int)) (by omega); omega⟩
  obtain ⟨hlin2, hchk2⟩ := hI.no (by omega) hkl
  have hver := hI.ver k hkl
  (repeat (first | refine VC.seq ?_ | refine VC.region ?_ | refine VC.block ?_ | refine VC.label ?_ | refine VC.scope ?_ | refine VO.go (VO.nil ?_) | refine VO.go (VO.ld 0 rfl rfl rfl rfl ?_)))
  refine VO.go (VO.light (light_conv u rfl rfl rfl rfl rfl (i64_b hu)) ?_)
  (repeat (first | refine VC.seq ?_ | refine VC.region ?_ | refine VC.block ?_ | refine VC.label ?_ | refine VC.scope ?_ | refine VO.go (VO.nil ?_) | refine VO.go (VO.ld 0 rfl rfl rfl rfl ?_)))
  refine VO.go (VO.light (light_rem rfl rfl hu.1 (by omega)) ?_)
  rw [hk]
  refine VO.opn 0 rfl (HOpn.sl _ _ _ _ _ _) ?_
  rintro (_ | ⟨b, rest⟩) ⟨hx1, hx2, hx3⟩
  · obtain ⟨_, h0, _⟩ := hx3; omega
  obtain ⟨rfl, hx4⟩ := hx3
  dsimp only
  (repeat (first | refine VC.seq ?_ | refine VC.region ?_ | refine VC.block ?_ | refine VC.label ?_ | refine VC.scope ?_ | refine VO.go (VO.nil ?_) | refine VO.go (VO.ld 0 rfl rfl rfl rfl ?_)))
  refine VO.go (VO.light (light_idx k rfl rfl rfl rfl rfl rfl hkl) ?_)
  (repeat (first | refine VC.seq ?_ | refine VC.region ?_ | refine VC.block ?_ | refine VC.label ?_ | refine VC.scope ?_ | refine VO.go (VO.nil ?_) | refine VO.go (VO.ld 0 rfl rfl rfl rfl ?_)))
  have hld : (flat recC l ++ rest)[0 + k * 14 + 8 + 2 + 2]? = some (.int .i64 (at_ l k).res.version) := by
    rw [show 0 + k * 14 + 8 + 2 + 2 = k * 14 + 12 by omega]
    exact flat_cell recC_len (at_get hkl) rfl rest
  refine VO.go (VO.ld 0 rfl rfl rfl hld ?_)
  refine VO.go (VO.add rfl rfl (by omega) (by omega) ?_)
  (repeat (first | refine VC.seq ?_ | refine VC.region ?_ | refine VC.block ?_ | refine VC.label ?_ | refine VC.scope ?_ | refine VO.go (VO.nil ?_) | refine VO.go (VO.ld 0 rfl rfl rfl rfl ?_)))
  refine VO.go (VO.light (light_idx k rfl rfl rfl rfl rfl rfl hkl) ?_)
  (repeat (first | refine VC.seq ?_ | refine VC.region ?_ | refine VC.block ?_ | refine VC.label ?_ | refine VC.scope ?_ | refine VO.go (VO.nil ?_) | refine VO.go (VO.ld 0 rfl rfl rfl rfl ?_)))
  refine VO.go (VO.st 0 (cs' := flat recC (l.set k (badV (at_ l k))) ++ rest) rfl rfl rfl rfl (by show 0 + k * 14 + 8 + 2 + 2 < (flat recC l ++ rest).length; omega) ?_ rfl ?_)
  · show List.set _ (0 + k * 14 + 8 + 2 + 2) (Value.int .i64 ((at_ l k).res.version + 100)) = _
    rw [show 0 + k * 14 + 8 + 2 + 2 = k * 14 + 12 by omega]
    exact flat_setCell recC_len (at_get hkl) (by decide) rfl rest
  generalize hl2 : l.set k (badV (at_ l k)) = l2 at hlin2 hchk2 ⊢
  have hl2n : l2.length = l.length := by rw [← hl2, List.length_set]
  refine VO.ent (L' := [slH 34 14 (some ⟨b, 0, none⟩) l2.length c' (flat recC l2)]) (Imp.sl (rest := rest) (by rw [flat_len recC_len]) (by omega) (by rw [List.length_append, flat_len recC_len, hl2n]; rw [List.length_append, flat_len recC_len] at hx4; omega) Imp.refl).ent ?_
  (repeat (first | refine VC.seq ?_ | refine VC.region ?_ | refine VC.block ?_ | refine VC.label ?_ | refine VC.scope ?_ | refine VO.go (VO.nil ?_) | refine VO.go (VO.ld 0 rfl rfl rfl rfl ?_)))
  refine VO.go (VO.callV' (fun Fr w hF hs hS => lin_at (l := l2) (b := false) (c := 0) Fr w (RwIn.sl recC_len (hS.at_ 0 rfl)) hl2n.symm (by omega) (TabF.st rfl hT hF hs) hlin2 hchk2) rfl ?_)
  (repeat (first | refine VC.seq ?_ | refine VC.region ?_ | refine VC.block ?_ | refine VC.label ?_ | refine VC.scope ?_ | refine VO.go (VO.nil ?_) | refine VO.go (VO.ld 0 rfl rfl rfl rfl ?_)))
  refine VO.go (VO.yes 58 true rfl rfl ?_)
  (repeat (first | refine VC.seq ?_ | refine VC.region ?_ | refine VC.block ?_ | refine VC.label ?_ | refine VC.scope ?_ | refine VO.go (VO.nil ?_) | refine VO.go (VO.ld 0 rfl rfl rfl rfl ?_)))
  refine VO.go (VO.yes 62 true rfl rfl ?_)
  refine VO.go (VO.callV' (fun Fr w hF hs _ => found_spec Fr w (TabF.st rfl hT hF hs)) rfl ?_)
  (repeat (first | refine VC.seq ?_ | refine VC.region ?_ | refine VC.block ?_ | refine VC.label ?_ | refine VC.scope ?_ | refine VO.go (VO.nil ?_) | refine VO.go (VO.ld 0 rfl rfl rfl rfl ?_)))
  exact VC.ret (Ret.tmp 4 rfl rfl Imp.nil.ent ⟨rfl, rfl⟩)
end Go.Proofs.YthabecjplpomhaaDoor.Br
