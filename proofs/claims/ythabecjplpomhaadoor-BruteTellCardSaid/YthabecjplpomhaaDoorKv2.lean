/- Stores of keys with values: copied; their keys in order. No condition. -/
import Derived.Test.YthabecjplpomhaaDoorKv
import Derived.Test.YthabecjplpomhaaDoorLib2
namespace Go.Proofs.YthabecjplpomhaaDoor.Kv
open Go Go.Proofs.YthabecjplpomhaaDoor.Vg Go.Proofs.YthabecjplpomhaaDoor.T Go.Proofs.YthabecjplpomhaaDoor.Api Go.Proofs.YthabecjplpomhaaDoor.LibC
set_option linter.unusedSimpArgs false
set_option linter.unusedVariables false
attribute [local irreducible] VO VC VA

set_option maxRecDepth 100000 in
theorem copy_spec (Fr : Nat → Prop) (w : World) {p : Nat} {S : KvM} (h : SatIn Fr [kvH p S] w) :
    Tri Tryd.prog 37 [.pointer (some ⟨p, 0, none⟩)] Fr w [] (fun v L => ∃ p', v = .pointer (some ⟨p', 0, none⟩) ∧ L = [kvH p' S]) := by
  obtain ⟨b, hp, hm⟩ := kv_in h
  refine Tri.of 12 Tryd.func37 rfl (by kernel_rfl) tabOk rfl rfl ?_
  (repeat (first | refine VC.seq ?_ | refine VC.region ?_ | refine VC.block ?_ | refine VC.label ?_ | refine VC.scope ?_ | refine VO.go (VO.nil ?_) | refine VO.go (VO.ld 0 rfl rfl rfl rfl ?_)))
  refine VO.go (VO.callV' (fun Fr w hF hs _ => none_spec Fr w (h.of hF hs)) rfl ?_)
  (repeat (first | refine VC.seq ?_ | refine VC.region ?_ | refine VC.block ?_ | refine VC.label ?_ | refine VC.scope ?_ | refine VO.go (VO.nil ?_) | refine VO.go (VO.ld 0 rfl rfl rfl rfl ?_)))
  refine VC.condF rfl (VC.skip ?_)
  (repeat (first | refine VC.seq ?_ | refine VC.region ?_ | refine VC.block ?_ | refine VC.label ?_ | refine VC.scope ?_ | refine VO.go (VO.nil ?_) | refine VO.go (VO.ld 0 rfl rfl rfl rfl ?_) | refine VO.go (VO.load rfl rfl (RdL.blk hp rfl) ?_)))
  refine VO.go (VO.call (Lc := []) (fun Fr w hF hs hS => cloneM_spec Fr w (hm.of hF hs)) rfl rfl ?_)
  rintro _ _ ⟨b', rfl, rfl⟩
  (repeat (first | refine VC.seq ?_ | refine VC.region ?_ | refine VC.block ?_ | refine VC.label ?_ | refine VC.scope ?_ | refine VO.go (VO.nil ?_) | refine VO.go (VO.ld 0 rfl rfl rfl rfl ?_)))
  refine VO.go (VO.light (light_build (pv := [(0, .map (some b'))]) [.map (some b')] rfl rfl rfl (by kernel_rfl) rfl) ?_)
  refine VO.go (VO.boxA (vs := [.map (some b')]) rfl fun p' => ?_)
  (repeat (first | refine VC.seq ?_ | refine VC.region ?_ | refine VC.block ?_ | refine VC.label ?_ | refine VC.scope ?_ | refine VO.go (VO.nil ?_) | refine VO.go (VO.ld 0 rfl rfl rfl rfl ?_)))
  exact VC.ret (Ret.tmp 2 rfl rfl (Imp.kv Imp.refl).ent ⟨p', rfl, rfl⟩)

/-- Keys that are short. -/
def Small (S : KvM) : Prop := S.length ≤ 1000000 ∧ ∀ x ∈ S, x.1.size ≤ maxLen
set_option maxRecDepth 100000 in
theorem skeys_spec (Fr : Nat → Prop) (w : World) {p : Nat} {S : KvM} (h : SatIn Fr [kvH p S] w) (hS : Small S) :
    Tri Tryd.prog 39 [.pointer (some ⟨p, 0, none⟩)] Fr w [] (fun v L => ∃ a cap, v = .slice a S.length cap ∧ S.length ≤ cap ∧ L = [slH 9 1 a S.length cap ((sortedKeys S).map Proofs.encStr)]) := by
  obtain ⟨b, hp, hm⟩ := kv_in h
  refine Tri.of 11 Tryd.func39 rfl (by kernel_rfl) tabOk rfl rfl ?_
  (repeat (first | refine VC.seq ?_ | refine VC.region ?_ | refine VC.block ?_ | refine VC.label ?_ | refine VC.scope ?_ | refine VO.go (VO.nil ?_) | refine VO.go (VO.ld 0 rfl rfl rfl rfl ?_)))
  refine VO.go (VO.callV' (fun Fr w hF hs _ => none_spec Fr w (h.of hF hs)) rfl ?_)
  (repeat (first | refine VC.seq ?_ | refine VC.region ?_ | refine VC.block ?_ | refine VC.label ?_ | refine VC.scope ?_ | refine VO.go (VO.nil ?_) | refine VO.go (VO.ld 0 rfl rfl rfl rfl ?_)))
  refine VC.condF rfl (VC.skip ?_)
  (repeat (first | refine VC.seq ?_ | refine VC.region ?_ | refine VC.block ?_ | refine VC.label ?_ | refine VC.scope ?_ | refine VO.go (VO.nil ?_) | refine VO.go (VO.ld 0 rfl rfl rfl rfl ?_) | refine VO.go (VO.load rfl rfl (RdL.blk hp rfl) ?_)))
  refine VO.go (VO.call0 rfl (fun Fr w => keys_spec Fr w b) ?_)
  rintro _ _ ⟨q, rfl, rfl⟩
  refine VO.go (VO.call (Lc := [pt q [.map (some b)] 77]) (Lr := []) (fun Fr w hF hs hS' => sorted_spec Fr w (hm.of hF hs) hS.2 hS.1) rfl rfl ?_)
  rintro _ _ ⟨a, cap, rfl, hc, rfl⟩
  (repeat (first | refine VC.seq ?_ | refine VC.region ?_ | refine VC.block ?_ | refine VC.label ?_ | refine VC.scope ?_ | refine VO.go (VO.nil ?_) | refine VO.go (VO.ld 0 rfl rfl rfl rfl ?_)))
  exact VC.ret (Ret.tmp 2 rfl rfl Ent.refl ⟨a, cap, rfl, hc, rfl⟩)
end Go.Proofs.YthabecjplpomhaaDoor.Kv
