/- Layer 33: lists that are too great; the chapter's calls. No condition but the table of powers of ten. -/
import Derived.Test.YthabecjplpomhaaDoorBrH
namespace Go.Proofs.YthabecjplpomhaaDoor.Br
open Go Go.Proofs.YthabecjplpomhaaDoor.Vg Go.Proofs.YthabecjplpomhaaDoor.T Go.Proofs.YthabecjplpomhaaDoor.Api Go.Proofs.YthabecjplpomhaaDoor.Kv Go.Proofs.YthabecjplpomhaaDoor.LibC
set_option linter.unusedSimpArgs false
set_option linter.unusedVariables false
attribute [local irreducible] VO VC VA

def bigR (r : RecM) : Bool := decide (200 < (r.op.key.size : Int)) || decide (200 < (r.op.value.size : Int)) || decide (200 < (r.res.value.size : Int))
def greatM (l : List RecM) (most : Int) : Bool := l.any bigR || decide (most < l.length)
set_option maxRecDepth 100000 in
theorem great_spec (Fr : Nat → Prop) (w : World) {a : Option Addr} {cap : Nat} {l : List RecM} (h : RecsIn Fr w a l) (hl : l.length ≤ 9223372036854775807) (most : Int) (hmost : 0 ≤ most) :
    Tri Tryd.prog 6 [.slice a l.length cap, .slice none 0 0, .int .i64 most] Fr w [] (fun v L => v = .bool (greatM l most) ∧ L = []) := by
  refine Tri.of 78 Tryd.func6 rfl (by kernel_rfl) tabOk rfl rfl ?_
  (repeat (first | refine VC.seq ?_ | refine VC.region ?_ | refine VC.block ?_ | refine VC.label ?_ | refine VC.scope ?_ | refine VO.go (VO.nil ?_) | refine VO.go (VO.ld 0 rfl rfl rfl rfl ?_)))
  refine VC.loop (σ := Nat) (fun j => [(0, .slice a l.length cap), (1, .slice none 0 0), (2, .int .i64 most), (7, .int .i64 j)]) (fun _ => []) (fun j => j ≤ l.length ∧ ∀ k, k < j → bigR (at_ l k) = false) (fun j => l.length - j) 0
    ⟨Nat.zero_le _, fun k hk => by omega⟩ (Sub.cons rfl (Sub.cons rfl (Sub.cons rfl (Sub.cons rfl (Sub.nil _))))) Ent.refl ?_
  rintro j ⟨hj, hall⟩
  (repeat (first | refine VC.seq ?_ | refine VC.region ?_ | refine VC.block ?_ | refine VC.label ?_ | refine VC.scope ?_ | refine VO.go (VO.nil ?_) | refine VO.go (VO.ld 0 rfl rfl rfl rfl ?_)))
  refine VC.condP rfl (fun h1 => VC.skip ?_) (fun h1 => VC.exit ?_)
  · have hj2 : j < l.length := by omega
    obtain ⟨fb, fo, rfl, ra, rc⟩ := RwIn.rd (X := ⟨Tryd.prog, tab, tabOk, 78, Fr, w⟩) h (at_get hj2)
    refine VC.seq (VC.block ?_)
    refine VC.meet (σ := Bool) (fun t => [(0, .slice (some ⟨fb, fo, none⟩) l.length cap), (1, .slice none 0 0), (2, .int .i64 most), (7, .int .i64 j), (43, .bool t)]) (fun _ => []) (fun t => t = bigR (at_ l j)) ?_ ?_
    · (repeat (first | refine VC.seq ?_ | refine VC.region ?_ | refine VC.block ?_ | refine VC.label ?_ | refine VC.scope ?_ | refine VO.go (VO.nil ?_) | refine VO.go (VO.ld 0 rfl rfl rfl rfl ?_)))
      refine VO.go (VO.light (light_idx j rfl rfl rfl rfl rfl rfl hj2) ?_)
      (repeat (first | refine VC.seq ?_ | refine VC.region ?_ | refine VC.block ?_ | refine VC.label ?_ | refine VC.scope ?_ | refine VO.go (VO.nil ?_) | refine VO.go (VO.ld 0 rfl rfl rfl rfl ?_)))
      refine VO.go (VO.load rfl rfl (rc _ _ 3 _ rfl rfl) ?_)
      (repeat (first | refine VC.seq ?_ | refine VC.region ?_ | refine VC.block ?_ | refine VC.label ?_ | refine VC.scope ?_ | refine VO.go (VO.nil ?_) | refine VO.go (VO.ld 0 rfl rfl rfl rfl ?_)))
      refine VO.go (VO.split 23 rfl rfl (fun h2 => ?_) (fun h2 => ?_))
      · (repeat (first | refine VC.seq ?_ | refine VC.region ?_ | refine VC.block ?_ | refine VC.label ?_ | refine VC.scope ?_ | refine VO.go (VO.nil ?_) | refine VO.go (VO.ld 0 rfl rfl rfl rfl ?_) | refine VO.go (VO.offU rfl rfl rfl ?_)))
        refine VO.go (VO.yes 33 true rfl rfl ?_)
        (repeat (first | refine VC.seq ?_ | refine VC.region ?_ | refine VC.block ?_ | refine VC.label ?_ | refine VC.scope ?_ | refine VO.go (VO.nil ?_) | refine VO.go (VO.ld 0 rfl rfl rfl rfl ?_) | refine VO.go (VO.offU rfl rfl rfl ?_)))
        exact ⟨_, by unfold bigR; rw [h2]; rfl, Sub.cons rfl (Sub.cons rfl (Sub.cons rfl (Sub.cons rfl (Sub.cons rfl (Sub.nil _))))), Ent.refl⟩
      · (repeat (first | refine VC.seq ?_ | refine VC.region ?_ | refine VC.block ?_ | refine VC.label ?_ | refine VC.scope ?_ | refine VO.go (VO.nil ?_) | refine VO.go (VO.ld 0 rfl rfl rfl rfl ?_) | refine VO.go (VO.offU rfl rfl rfl ?_)))
        refine VO.go (VO.light (light_idx j rfl rfl rfl rfl rfl rfl hj2) ?_)
        (repeat (first | refine VC.seq ?_ | refine VC.region ?_ | refine VC.block ?_ | refine VC.label ?_ | refine VC.scope ?_ | refine VO.go (VO.nil ?_) | refine VO.go (VO.ld 0 rfl rfl rfl rfl ?_)))
        refine VO.go (VO.load rfl rfl (rc _ _ 4 _ rfl rfl) ?_)
        (repeat (first | refine VC.seq ?_ | refine VC.region ?_ | refine VC.block ?_ | refine VC.label ?_ | refine VC.scope ?_ | refine VO.go (VO.nil ?_) | refine VO.go (VO.ld 0 rfl rfl rfl rfl ?_)))
        refine VO.go (VO.split 33 rfl rfl (fun h3 => ?_) (fun h3 => ?_))
        · (repeat (first | refine VC.seq ?_ | refine VC.region ?_ | refine VC.block ?_ | refine VC.label ?_ | refine VC.scope ?_ | refine VO.go (VO.nil ?_) | refine VO.go (VO.ld 0 rfl rfl rfl rfl ?_) | refine VO.go (VO.offU rfl rfl rfl ?_)))
          exact ⟨_, by unfold bigR; rw [h2, h3]; rfl, Sub.cons rfl (Sub.cons rfl (Sub.cons rfl (Sub.cons rfl (Sub.cons rfl (Sub.nil _))))), Ent.refl⟩
        · (repeat (first | refine VC.seq ?_ | refine VC.region ?_ | refine VC.block ?_ | refine VC.label ?_ | refine VC.scope ?_ | refine VO.go (VO.nil ?_) | refine VO.go (VO.ld 0 rfl rfl rfl rfl ?_) | refine VO.go (VO.offU rfl rfl rfl ?_)))
          refine VO.go (VO.light (light_idx j rfl rfl rfl rfl rfl rfl hj2) ?_)
          (repeat (first | refine VC.seq ?_ | refine VC.region ?_ | refine VC.block ?_ | refine VC.label ?_ | refine VC.scope ?_ | refine VO.go (VO.nil ?_) | refine VO.go (VO.ld 0 rfl rfl rfl rfl ?_)))
          refine VO.go (VO.load rfl rfl (rc _ _ 11 _ rfl rfl) ?_)
          (repeat (first | refine VC.seq ?_ | refine VC.region ?_ | refine VC.block ?_ | refine VC.label ?_ | refine VC.scope ?_ | refine VO.go (VO.nil ?_) | refine VO.go (VO.ld 0 rfl rfl rfl rfl ?_)))
          exact ⟨_, by unfold bigR; rw [h2, h3]; rfl, Sub.cons rfl (Sub.cons rfl (Sub.cons rfl (Sub.cons rfl (Sub.cons rfl (Sub.nil _))))), Ent.refl⟩
    intro t ht
    refine VC.cond rfl (fun h2 => ?_) (fun h2 => VC.skip ?_)
    · (repeat (first | refine VC.seq ?_ | refine VC.region ?_ | refine VC.block ?_ | refine VC.label ?_ | refine VC.scope ?_ | refine VO.go (VO.nil ?_) | refine VO.go (VO.ld 0 rfl rfl rfl rfl ?_)))
      refine VC.ret (Ret.bool 6 rfl rfl ?_ Ent.refl ⟨rfl, rfl⟩)
      have : l.any bigR = true := List.any_eq_true.2 ⟨_, List.mem_of_getElem? (at_get hj2), by rw [← ht, h2]⟩
      rw [greatM, this]; rfl
    · (repeat (first | refine VC.seq ?_ | refine VC.region ?_ | refine VC.block ?_ | refine VC.label ?_ | refine VC.scope ?_ | refine VO.go (VO.nil ?_) | refine VO.go (VO.ld 0 rfl rfl rfl rfl ?_)))
      refine VO.go (VO.add rfl rfl (by omega) (by omega) ?_)
      (repeat (first | refine VC.seq ?_ | refine VC.region ?_ | refine VC.block ?_ | refine VC.label ?_ | refine VC.scope ?_ | refine VO.go (VO.nil ?_) | refine VO.go (VO.ld 0 rfl rfl rfl rfl ?_)))
      refine ⟨j + 1, ⟨hj2, fun k hk => ?_⟩, by dsimp only; omega, Sub.cons rfl (Sub.cons rfl (Sub.cons rfl (Sub.cons rfl (Sub.nil _)))), Ent.refl⟩
      rcases Nat.lt_or_ge k j with h | h
      · exact hall k h
      · obtain rfl : k = j := by omega
        rw [← ht, h2]
  · obtain rfl : j = l.length := by omega
    have hno : l.any bigR = false := by
      rw [Bool.eq_false_iff]
      intro hc
      obtain ⟨r, hr, hb⟩ := List.any_eq_true.1 hc
      obtain ⟨k, hk, e⟩ := List.getElem_of_mem hr
      have := hall k hk
      have e2 : at_ l k = r := by
        have := at_get hk
        rw [List.getElem?_eq_getElem hk] at this
        rw [← e]; exact (Option.some.inj this).symm
      rw [e2, hb] at this; cases this
    (repeat (first | refine VC.seq ?_ | refine VC.region ?_ | refine VC.block ?_ | refine VC.label ?_ | refine VC.scope ?_ | refine VO.go (VO.nil ?_) | refine VO.go (VO.ld 0 rfl rfl rfl rfl ?_)))
    refine VC.loop (σ := Unit) (fun _ => [(0, .slice a l.length cap), (1, .slice none 0 0), (2, .int .i64 most), (8, .int .i64 0)]) (fun _ => []) (fun _ => True) (fun _ => 0) () trivial (Sub.cons rfl (Sub.cons rfl (Sub.cons rfl (Sub.cons rfl (Sub.nil _))))) Ent.refl ?_
    rintro _ _
    (repeat (first | refine VC.seq ?_ | refine VC.region ?_ | refine VC.block ?_ | refine VC.label ?_ | refine VC.scope ?_ | refine VO.go (VO.nil ?_) | refine VO.go (VO.ld 0 rfl rfl rfl rfl ?_)))
    refine VC.condF rfl (VC.exit ?_)
    (repeat (first | refine VC.seq ?_ | refine VC.region ?_ | refine VC.block ?_ | refine VC.label ?_ | refine VC.scope ?_ | refine VO.go (VO.nil ?_) | refine VO.go (VO.ld 0 rfl rfl rfl rfl ?_)))
    refine VO.go (VO.split 72 rfl rfl (fun h2 => ?_) (fun h2 => ?_))
    · (repeat (first | refine VC.seq ?_ | refine VC.region ?_ | refine VC.block ?_ | refine VC.label ?_ | refine VC.scope ?_ | refine VO.go (VO.nil ?_) | refine VO.go (VO.ld 0 rfl rfl rfl rfl ?_) | refine VO.go (VO.offU rfl rfl rfl ?_)))
      exact VC.ret (Ret.bool 6 rfl rfl (by rw [greatM, hno]; have := of_decide_eq_true h2; simp; omega) Ent.refl ⟨rfl, rfl⟩)
    · (repeat (first | refine VC.seq ?_ | refine VC.region ?_ | refine VC.block ?_ | refine VC.label ?_ | refine VC.scope ?_ | refine VO.go (VO.nil ?_) | refine VO.go (VO.ld 0 rfl rfl rfl rfl ?_) | refine VO.go (VO.offU rfl rfl rfl ?_)))
      exact VC.ret (Ret.bool 6 rfl rfl (by rw [greatM, hno]; have := of_decide_eq_false h2; simp; omega) Ent.refl ⟨rfl, rfl⟩)

theorem recs_blk {Fr : Nat → Prop} {w : World} {b : Nat} {l : List RecM} (h : Blk Fr w b (flat recC l)) : RecsIn Fr w (some ⟨b, 0, none⟩) l :=
  RwIn.blk h (fun i x hx => by
    have := flat_row recC_len hx []
    rw [List.append_nil] at this
    rw [Nat.zero_add]; exact this)
theorem lin_at (Fr : Nat → Prop) (w : World) {a : Option Addr} {cap n : Nat} {l : List RecM} {b : Bool} {c : Int} (h : RecsIn Fr w a l) (hn : n = l.length) (hl : l.length ≤ 9223372036854775807) (hT : TabF Fr w) (e : linOk l = b) (e2 : checkM l = c) :
    Tri Tryd.prog 9 [.slice a n cap] Fr w [] (fun v L => v = .tuple #[.bool b, .int .i64 c] ∧ L = []) := by
  subst e; subst e2; subst hn; exact linear_spec Fr w h hl hT

def fPut : RecM := ⟨0, 1, ⟨2, ⟨#[107]⟩, ⟨#[97]⟩, 0⟩, 0, -1, 0, 0, resZ⟩
def fGet : RecM := ⟨1, 1, ⟨1, ⟨#[107]⟩, nilB, 0⟩, 1, 2, 1, 0, ⟨1, ⟨#[97]⟩, 1, 0⟩⟩
set_option maxRecDepth 100000 in
set_option maxHeartbeats 1000000 in
theorem found_spec (Fr : Nat → Prop) (w : World) (hT : TabF Fr w) : Tri Tryd.prog 7 [] Fr w [] (fun v L => v = .bool true ∧ L = []) := by
  refine Tri.of 103 Tryd.func7 rfl (by kernel_rfl) tabOk rfl rfl ?_
  (repeat (first | refine VC.seq ?_ | refine VC.region ?_ | refine VC.block ?_ | refine VC.label ?_ | refine VC.scope ?_ | refine VO.go (VO.nil ?_) | refine VO.go (VO.ld 0 rfl rfl rfl rfl ?_)))
  refine VO.go (VO.light (light_build (pv := [(0, .int .i64 2), (1, .string ⟨#[107]⟩), (2, .string ⟨#[97]⟩)]) fPut.op.cells rfl rfl rfl (by kernel_rfl) rfl) ?_)
  refine VO.go (VO.light (light_build (pv := [(0, .int .i64 0), (1, .int .i64 1), (2, .agg fPut.op.cells.toArray), (3, .int .i64 0), (4, .int .i64 (-1))]) (recC fPut) rfl rfl rfl (by kernel_rfl) rfl) ?_)
  refine VO.go (VO.alloc rfl fun b1 => ?_)
  refine VO.go (VO.stA (vs := recC fPut) 0 rfl rfl rfl rfl (Nat.le_refl _) rfl rfl rfl ?_)
  (repeat (first | refine VC.seq ?_ | refine VC.region ?_ | refine VC.block ?_ | refine VC.label ?_ | refine VC.scope ?_ | refine VO.go (VO.nil ?_) | refine VO.go (VO.ld 0 rfl rfl rfl rfl ?_)))
  refine VO.go (VO.light (light_build (pv := [(0, .int .i64 1), (1, .string ⟨#[107]⟩)]) fGet.op.cells rfl rfl rfl (by kernel_rfl) rfl) ?_)
  refine VO.go (VO.light (light_build (pv := [(0, .int .i64 1), (1, .string ⟨#[97]⟩), (2, .int .i64 1)]) (resC fGet.res) rfl rfl rfl (by kernel_rfl) rfl) ?_)
  refine VO.go (VO.light (light_build (pv := [(0, .int .i64 1), (2, .agg (resC fGet.res).toArray)]) (Value.int .i64 1 :: Value.int .i64 0 :: resC fGet.res) rfl rfl rfl (by kernel_rfl) rfl) ?_)
  refine VO.go (VO.light (light_build (pv := [(0, .int .i64 1), (1, .int .i64 1), (2, .agg fGet.op.cells.toArray), (3, .int .i64 1), (4, .int .i64 2), (5, .agg (Value.int .i64 1 :: Value.int .i64 0 :: resC fGet.res).toArray)]) (recC fGet) rfl rfl rfl (by kernel_rfl) rfl) ?_)
  refine VO.go (VO.alloc rfl fun b2 => ?_)
  refine VO.go (VO.stA (vs := recC fGet) 0 rfl rfl rfl rfl (Nat.le_refl _) rfl rfl rfl ?_)
  (repeat (first | refine VC.seq ?_ | refine VC.region ?_ | refine VC.block ?_ | refine VC.label ?_ | refine VC.scope ?_ | refine VO.go (VO.nil ?_) | refine VO.go (VO.ld 0 rfl rfl rfl rfl ?_)))
  refine VO.go (VO.callV' (fun Fr w hF hs _ => lin_at (l := []) (b := true) (c := 0) Fr w RwIn.nil rfl (by decide) (TabF.st rfl hT hF hs) (by decide +kernel) (by decide +kernel)) rfl ?_)
  (repeat (first | refine VC.seq ?_ | refine VC.region ?_ | refine VC.block ?_ | refine VC.label ?_ | refine VC.scope ?_ | refine VO.go (VO.nil ?_) | refine VO.go (VO.ld 0 rfl rfl rfl rfl ?_)))
  refine VO.go (VO.ldA 1 (recC fPut) rfl rfl rfl rfl ?_)
  refine VO.go (VO.ldA 0 (recC fGet) rfl rfl rfl rfl ?_)
  refine VO.go (VO.buildSlice (pv := [(0, .agg (recC fPut).toArray), (1, .agg (recC fGet).toArray)]) (flat recC [fPut, fGet]) rfl rfl rfl rfl (by decide) (by kernel_rfl) fun s1 => ?_)
  refine VO.go (VO.callV' (fun Fr w hF hs hS => lin_at (l := [fPut, fGet]) (b := true) (c := 0) Fr w (recs_blk (hS.blk 0 rfl)) rfl (by decide) (TabF.st rfl hT hF hs) (by decide +kernel) (by decide +kernel)) rfl ?_)
  (repeat (first | refine VC.seq ?_ | refine VC.region ?_ | refine VC.block ?_ | refine VC.label ?_ | refine VC.scope ?_ | refine VO.go (VO.nil ?_) | refine VO.go (VO.ld 0 rfl rfl rfl rfl ?_)))
  refine VO.go (VO.ldA 1 (recC fGet) rfl rfl rfl rfl ?_)
  refine VO.go (VO.buildSlice (pv := [(0, .agg (recC fGet).toArray)]) (flat recC [fGet]) rfl rfl rfl rfl (by decide) (by kernel_rfl) fun s2 => ?_)
  refine VO.go (VO.callV' (fun Fr w hF hs hS => lin_at (l := [fGet]) (b := false) (c := 0) Fr w (recs_blk (hS.blk 0 rfl)) rfl (by decide) (TabF.st rfl hT hF hs) (by decide +kernel) (by decide +kernel)) rfl ?_)
  (repeat (first | refine VC.seq ?_ | refine VC.region ?_ | refine VC.block ?_ | refine VC.label ?_ | refine VC.scope ?_ | refine VO.go (VO.nil ?_) | refine VO.go (VO.ld 0 rfl rfl rfl rfl ?_)))
  refine VO.go (VO.ldA 3 (recC fPut) rfl rfl rfl rfl ?_)
  refine VO.go (VO.ldA 2 (recC fGet) rfl rfl rfl rfl ?_)
  refine VO.go (VO.buildSlice (pv := [(0, .agg (recC fPut).toArray), (1, .agg (recC fGet).toArray)]) (flat recC [fPut, fGet]) rfl rfl rfl rfl (by decide) (by kernel_rfl) fun s3 => ?_)
  refine VO.go (VO.call (Lc := []) (fun Fr w hF hs hS => order_spec (l := [fPut, fGet]) Fr w (recs_blk (hS.blk 0 rfl)) (by decide) (TabF.st rfl hT hF hs)) rfl rfl ?_)
  have ho : ordOut [fPut, fGet] = some [0, 1] := by decide +kernel
  rw [ho]
  rintro _ _ (⟨h, _, _⟩ | ⟨o, a', cap', h, rfl, hc', rfl⟩)
  · cases h
  cases h
  refine VO.opn 0 rfl (HOpn.sl _ _ _ _ _ _) ?_
  rintro (_ | ⟨ob, rest⟩) ⟨hx1, hx2, hx3⟩
  · obtain ⟨_, h, _⟩ := hx3; cases h
  obtain ⟨rfl, hx4⟩ := hx3
  (repeat (first | refine VC.seq ?_ | refine VC.region ?_ | refine VC.block ?_ | refine VC.label ?_ | refine VC.scope ?_ | refine VO.go (VO.nil ?_) | refine VO.go (VO.ld 0 rfl rfl rfl rfl ?_)))
  refine VO.go (VO.makeSlice 9 rfl rfl rfl rfl rfl rfl rfl (by decide) (by decide) fun s4 => ?_)
  refine VO.go (VO.callV' (fun Fr w hF hs hS => lin_at (l := List.replicate 9 recZ) (b := false) (c := 3) Fr w (recs_blk (hS.blk 0 rfl)) rfl (by decide) (TabF.st rfl hT hF hs) (by decide +kernel) (by decide +kernel)) rfl ?_)
  (repeat (first | refine VC.seq ?_ | refine VC.region ?_ | refine VC.block ?_ | refine VC.label ?_ | refine VC.scope ?_ | refine VO.go (VO.nil ?_) | refine VO.go (VO.ld 0 rfl rfl rfl rfl ?_)))
  refine VO.go (VO.makeSlice 8 rfl rfl rfl rfl rfl rfl rfl (by decide) (by decide) fun s5 => ?_)
  refine VO.go (VO.callV' (fun Fr w hF hs hS => lin_at (l := List.replicate 8 recZ) (b := false) (c := 2) Fr w (recs_blk (hS.blk 0 rfl)) rfl (by decide) (TabF.st rfl hT hF hs) (by decide +kernel) (by decide +kernel)) rfl ?_)
  (repeat (first | refine VC.seq ?_ | refine VC.region ?_ | refine VC.block ?_ | refine VC.label ?_ | refine VC.scope ?_ | refine VO.go (VO.nil ?_) | refine VO.go (VO.ld 0 rfl rfl rfl rfl ?_)))
  refine VO.go (VO.yes 56 true rfl rfl ?_)
  (repeat (first | refine VC.seq ?_ | refine VC.region ?_ | refine VC.block ?_ | refine VC.label ?_ | refine VC.scope ?_ | refine VO.go (VO.nil ?_) | refine VO.go (VO.ld 0 rfl rfl rfl rfl ?_)))
  refine VO.go (VO.yes 60 true rfl rfl ?_)
  (repeat (first | refine VC.seq ?_ | refine VC.region ?_ | refine VC.block ?_ | refine VC.label ?_ | refine VC.scope ?_ | refine VO.go (VO.nil ?_) | refine VO.go (VO.ld 0 rfl rfl rfl rfl ?_)))
  refine VO.go (VO.yes 63 true rfl rfl ?_)
  (repeat (first | refine VC.seq ?_ | refine VC.region ?_ | refine VC.block ?_ | refine VC.label ?_ | refine VC.scope ?_ | refine VO.go (VO.nil ?_) | refine VO.go (VO.ld 0 rfl rfl rfl rfl ?_)))
  refine VO.go (VO.yes 67 true rfl rfl ?_)
  (repeat (first | refine VC.seq ?_ | refine VC.region ?_ | refine VC.block ?_ | refine VC.label ?_ | refine VC.scope ?_ | refine VO.go (VO.nil ?_) | refine VO.go (VO.ld 0 rfl rfl rfl rfl ?_)))
  refine VO.go (VO.yes 71 true rfl rfl ?_)
  (repeat (first | refine VC.seq ?_ | refine VC.region ?_ | refine VC.block ?_ | refine VC.label ?_ | refine VC.scope ?_ | refine VO.go (VO.nil ?_) | refine VO.go (VO.ld 0 rfl rfl rfl rfl ?_)))
  refine VO.go (VO.yes 75 true rfl rfl ?_)
  (repeat (first | refine VC.seq ?_ | refine VC.region ?_ | refine VC.block ?_ | refine VC.label ?_ | refine VC.scope ?_ | refine VO.go (VO.nil ?_) | refine VO.go (VO.ld 0 rfl rfl rfl rfl ?_)))
  refine VO.go (VO.yes 78 true rfl rfl ?_)
  (repeat (first | refine VC.seq ?_ | refine VC.region ?_ | refine VC.block ?_ | refine VC.label ?_ | refine VC.scope ?_ | refine VO.go (VO.nil ?_) | refine VO.go (VO.ld 0 rfl rfl rfl rfl ?_)))
  refine VO.go (VO.yes 83 true rfl rfl ?_)
  (repeat (first | refine VC.seq ?_ | refine VC.region ?_ | refine VC.block ?_ | refine VC.label ?_ | refine VC.scope ?_ | refine VO.go (VO.nil ?_) | refine VO.go (VO.ld 0 rfl rfl rfl rfl ?_)))
  refine VO.go (VO.light (light_idx 0 rfl rfl rfl rfl rfl rfl (by decide)) ?_)
  refine VO.go (VO.ld 2 (v := .int .i64 0) rfl rfl rfl rfl ?_)
  (repeat (first | refine VC.seq ?_ | refine VC.region ?_ | refine VC.block ?_ | refine VC.label ?_ | refine VC.scope ?_ | refine VO.go (VO.nil ?_) | refine VO.go (VO.ld 0 rfl rfl rfl rfl ?_)))
  refine VO.go (VO.yes 89 true rfl rfl ?_)
  (repeat (first | refine VC.seq ?_ | refine VC.region ?_ | refine VC.block ?_ | refine VC.label ?_ | refine VC.scope ?_ | refine VO.go (VO.nil ?_) | refine VO.go (VO.ld 0 rfl rfl rfl rfl ?_)))
  refine VO.go (VO.light (light_idx 1 rfl rfl rfl rfl rfl rfl (by decide)) ?_)
  refine VO.go (VO.ld 2 (v := .int .i64 1) rfl rfl rfl rfl ?_)
  (repeat (first | refine VC.seq ?_ | refine VC.region ?_ | refine VC.block ?_ | refine VC.label ?_ | refine VC.scope ?_ | refine VO.go (VO.nil ?_) | refine VO.go (VO.ld 0 rfl rfl rfl rfl ?_)))
  refine VO.go (VO.yes 95 true rfl rfl ?_)
  (repeat (first | refine VC.seq ?_ | refine VC.region ?_ | refine VC.block ?_ | refine VC.label ?_ | refine VC.scope ?_ | refine VO.go (VO.nil ?_) | refine VO.go (VO.ld 0 rfl rfl rfl rfl ?_)))
  refine VO.go (VO.yes 99 true rfl rfl ?_)
  (repeat (first | refine VC.seq ?_ | refine VC.region ?_ | refine VC.block ?_ | refine VC.label ?_ | refine VC.scope ?_ | refine VO.go (VO.nil ?_) | refine VO.go (VO.ld 0 rfl rfl rfl rfl ?_)))
  exact VC.ret (Ret.tmp 0 rfl rfl Imp.nil.ent ⟨rfl, rfl⟩)
end Go.Proofs.YthabecjplpomhaaDoor.Br
