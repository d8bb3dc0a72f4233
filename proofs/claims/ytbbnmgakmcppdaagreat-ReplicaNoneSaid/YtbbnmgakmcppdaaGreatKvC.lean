/- Stores of keys with values: copied (maps.Clone is taken off the shelf). No condition. -/
import Derived.Test.YtbbnmgakmcppdaaGreatKv
import Derived.Test.YtbbnmgakmcppdaaGreatShelf
namespace Go.Proofs.YtbbnmgakmcppdaaGreat.Kv
open Go Go.Proofs.YtbbnmgakmcppdaaGreat.Vg Go.Proofs.YtbbnmgakmcppdaaGreat.T Go.Proofs.YtbbnmgakmcppdaaGreat.Api Go.Shelf
set_option linter.unusedSimpArgs false
set_option linter.unusedVariables false
attribute [local irreducible] VO VC VA

theorem call_cloneM : Callable Tryz.prog 208 := ⟨_, Tryz.func208, by kernel_rfl, by kernel_rfl⟩
theorem cloneM_spec {κ α : Type} {c : κ → Value} {d : α → Value} {b : Nat} {xs : List (κ × α)} (Fr : Nat → Prop) (w : World) (h : MapBlk Fr w c d b xs) :
    Tri Tryz.prog 208 [.map (some b)] Fr w [] (fun v L => ∃ b', v = .map (some b') ∧ L = [mapH c d b' xs]) :=
  ⟨call_cloneM, fun hl hs => by
    obtain ⟨es, clock, h1, h2, h3⟩ := h.at_
    exact Calls.mono (AnyW.maps_Clone Tryz.cloneM b es clock w h1) fun e w' ⟨h4, h5⟩ => ⟨_, _, h4, ⟨_, rfl, rfl⟩, by
      subst h5
      exact ⟨Sat.alloc hl _ (mapH c d w.heap.size xs) ⟨rfl, es, clock, heap_alloc_new w _, h2, h3⟩ Sat.nil, Keep.alloc hl _⟩⟩⟩

set_option maxRecDepth 100000 in
theorem copy_spec (Fr : Nat → Prop) (w : World) {p : Nat} {S : KvM} (h : SatIn Fr [kvH p S] w) :
    Tri Tryz.prog 153 [.pointer (some ⟨p, 0, none⟩)] Fr w [] (fun v L => ∃ p', v = .pointer (some ⟨p', 0, none⟩) ∧ L = [kvH p' S]) := by
  obtain ⟨b, hp, hm⟩ := kv_in h
  refine Tri.of 12 Tryz.func153 rfl (by kernel_rfl) tabOk rfl rfl ?_
  (repeat (first|refine zS ?_|refine zR ?_|refine zB ?_|refine zL ?_|refine zC ?_|refine zG (zN ?_)|refine zG (zD 0 rfl rfl rfl rfl ?_)))
  refine VO.go (VO.callV' (fun Fr w hF hs _ => none_spec Fr w (h.of hF hs)) rfl ?_)
  (repeat (first|refine zS ?_|refine zR ?_|refine zB ?_|refine zL ?_|refine zC ?_|refine zG (zN ?_)|refine zG (zD 0 rfl rfl rfl rfl ?_)))
  refine VC.condF rfl (VC.skip ?_)
  (repeat (first|refine zS ?_|refine zR ?_|refine zB ?_|refine zL ?_|refine zC ?_|refine zG (zN ?_)|refine zG (zD 0 rfl rfl rfl rfl ?_)|refine zG (zE rfl rfl (RdL.blk hp rfl) ?_)))
  refine VO.go (VO.call (Lc := []) (fun Fr w hF hs hS => cloneM_spec Fr w (hm.of hF hs)) rfl rfl ?_)
  rintro _ _ ⟨b', rfl, rfl⟩
  (repeat (first|refine zS ?_|refine zR ?_|refine zB ?_|refine zL ?_|refine zC ?_|refine zG (zN ?_)|refine zG (zD 0 rfl rfl rfl rfl ?_)))
  refine VO.go (VO.light (light_build (pv := [(0, .map (some b'))]) [.map (some b')] rfl rfl rfl (by kernel_rfl) rfl) ?_)
  refine VO.go (VO.boxA (vs := [.map (some b')]) rfl fun p' => ?_)
  (repeat (first|refine zS ?_|refine zR ?_|refine zB ?_|refine zL ?_|refine zC ?_|refine zG (zN ?_)|refine zG (zD 0 rfl rfl rfl rfl ?_)))
  exact VC.ret (Ret.tmp 2 rfl rfl (Imp.kv Imp.refl).ent ⟨p', rfl, rfl⟩)

end Go.Proofs.YtbbnmgakmcppdaaGreat.Kv
