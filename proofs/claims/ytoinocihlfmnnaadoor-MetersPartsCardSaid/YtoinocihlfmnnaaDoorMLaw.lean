/- Layer 30: what the reference sees, too great lists, the chapter's meter, meters that are none. No condition. -/
import Derived.Test.YtoinocihlfmnnaaDoorRef30T
namespace Go.Proofs.YtoinocihlfmnnaaDoor.Met
open Go Go.Proofs.YtoinocihlfmnnaaDoor.Vg Go.Proofs.YtoinocihlfmnnaaDoor.T Go.Proofs.YtoinocihlfmnnaaDoor.Api Go.Proofs.YtoinocihlfmnnaaDoor.Cnt Go.Proofs.YtoinocihlfmnnaaDoor.LibC
set_option linter.unusedSimpArgs false
set_option linter.unusedVariables false
attribute [local irreducible] VO VC VA

/-! ### Meters that are none -/
def NoM (Fr : Nat → Prop) (w : World) (v : Value) : Prop := v = .pointer none ∨ ∃ p, v = .pointer (some ⟨p, 0, none⟩) ∧ Blk Fr w p [.int .i64 0, .pointer none]
theorem NoM.of {X : Cx} {v : Value} (h : NoM X.Fr X.w0 v) {Fr' : Nat → Prop} (hF : ∀ b, X.Fr b → Fr' b) {w : World} {L : List HP} (hw : St X L w) : NoM Fr' w v :=
  h.imp id fun ⟨p, h1, h2⟩ => ⟨p, h1, h2.of hF hw⟩
section
variable (Fr : Nat → Prop) (w : World) {v : Value} (h : NoM Fr w v)
include h
theorem made_no : Tri Tryd.prog 32 [v] Fr w [] (fun v L => v = .bool false ∧ L = []) := by
  rcases h with rfl | ⟨p, rfl, hb⟩
  · refine Tri.of 12 Tryd.func32 rfl (by kernel_rfl) tabOk rfl rfl ?_
    (repeat (first | refine VC.seq ?_ | refine VC.region ?_ | refine VC.block ?_ | refine VC.label ?_ | refine VC.scope ?_ | refine VO.go (VO.nil ?_) | refine VO.go (VO.ld 0 rfl rfl rfl rfl ?_)))
    refine VO.go (VO.yes 5 false rfl rfl ?_)
    (repeat (first | refine VC.seq ?_ | refine VC.region ?_ | refine VC.block ?_ | refine VC.label ?_ | refine VC.scope ?_ | refine VO.go (VO.nil ?_) | refine VO.go (VO.ld 0 rfl rfl rfl rfl ?_)))
    exact VC.ret (Ret.tmp 2 rfl rfl Ent.refl ⟨rfl, rfl⟩)
  · refine Tri.of 12 Tryd.func32 rfl (by kernel_rfl) tabOk rfl rfl ?_
    (repeat (first | refine VC.seq ?_ | refine VC.region ?_ | refine VC.block ?_ | refine VC.label ?_ | refine VC.scope ?_ | refine VO.go (VO.nil ?_) | refine VO.go (VO.ld 0 rfl rfl rfl rfl ?_)))
    refine VO.go (VO.yes 5 true rfl rfl ?_)
    (repeat (first | refine VC.seq ?_ | refine VC.region ?_ | refine VC.block ?_ | refine VC.label ?_ | refine VC.scope ?_ | refine VO.go (VO.nil ?_) | refine VO.go (VO.load rfl rfl (RdL.blk hb rfl) ?_)))
    exact VC.ret (Ret.tmp 2 rfl rfl Ent.refl ⟨rfl, rfl⟩)
theorem isClass_no (n : Int) : Tri Tryd.prog 33 [v, .int .i64 n] Fr w [] (fun v L => v = .bool false ∧ L = []) := by
  refine Tri.of 19 Tryd.func33 rfl (by kernel_rfl) tabOk rfl rfl ?_
  (repeat (first | refine VC.seq ?_ | refine VC.region ?_ | refine VC.block ?_ | refine VC.label ?_ | refine VC.scope ?_ | refine VO.go (VO.nil ?_) | refine VO.go (VO.ld 0 rfl rfl rfl rfl ?_)))
  refine VO.go (VO.callV' (fun Fr w hF hs _ => made_no Fr w (h.of hF hs)) rfl ?_)
  (repeat (first | refine VC.seq ?_ | refine VC.region ?_ | refine VC.block ?_ | refine VC.label ?_ | refine VC.scope ?_ | refine VO.go (VO.nil ?_) | refine VO.go (VO.ld 0 rfl rfl rfl rfl ?_)))
  refine VO.go (VO.yes 7 false rfl rfl ?_)
  (repeat (first | refine VC.seq ?_ | refine VC.region ?_ | refine VC.block ?_ | refine VC.label ?_ | refine VC.scope ?_ | refine VO.go (VO.nil ?_) | refine VO.go (VO.ld 0 rfl rfl rfl rfl ?_)))
  refine VO.go (VO.yes 11 false rfl rfl ?_)
  (repeat (first | refine VC.seq ?_ | refine VC.region ?_ | refine VC.block ?_ | refine VC.label ?_ | refine VC.scope ?_ | refine VO.go (VO.nil ?_) | refine VO.go (VO.ld 0 rfl rfl rfl rfl ?_)))
  exact VC.ret (Ret.tmp 4 rfl rfl Ent.refl ⟨rfl, rfl⟩)
theorem calls_no (n : Int) : Tri Tryd.prog 13 [v, .int .i64 n] Fr w [] (fun v L => v = .int .i64 0 ∧ L = []) := by
  refine Tri.of 13 Tryd.func13 rfl (by kernel_rfl) tabOk rfl rfl ?_
  (repeat (first | refine VC.seq ?_ | refine VC.region ?_ | refine VC.block ?_ | refine VC.label ?_ | refine VC.scope ?_ | refine VO.go (VO.nil ?_) | refine VO.go (VO.ld 0 rfl rfl rfl rfl ?_)))
  refine VO.go (VO.callV' (fun Fr w hF hs _ => isClass_no Fr w (h.of hF hs) n) rfl ?_)
  (repeat (first | refine VC.seq ?_ | refine VC.region ?_ | refine VC.block ?_ | refine VC.label ?_ | refine VC.scope ?_ | refine VO.go (VO.nil ?_) | refine VO.go (VO.ld 0 rfl rfl rfl rfl ?_)))
  refine VC.condT rfl ?_
  (repeat (first | refine VC.seq ?_ | refine VC.region ?_ | refine VC.block ?_ | refine VC.label ?_ | refine VC.scope ?_ | refine VO.go (VO.nil ?_) | refine VO.go (VO.ld 0 rfl rfl rfl rfl ?_)))
  exact VC.ret (Ret.tmp 4 rfl rfl Ent.refl ⟨rfl, rfl⟩)
theorem bytes_no (n : Int) : Tri Tryd.prog 14 [v, .int .i64 n] Fr w [] (fun v L => v = .int .i64 0 ∧ L = []) := by
  refine Tri.of 14 Tryd.func14 rfl (by kernel_rfl) tabOk rfl rfl ?_
  (repeat (first | refine VC.seq ?_ | refine VC.region ?_ | refine VC.block ?_ | refine VC.label ?_ | refine VC.scope ?_ | refine VO.go (VO.nil ?_) | refine VO.go (VO.ld 0 rfl rfl rfl rfl ?_)))
  refine VO.go (VO.callV' (fun Fr w hF hs _ => isClass_no Fr w (h.of hF hs) n) rfl ?_)
  (repeat (first | refine VC.seq ?_ | refine VC.region ?_ | refine VC.block ?_ | refine VC.label ?_ | refine VC.scope ?_ | refine VO.go (VO.nil ?_) | refine VO.go (VO.ld 0 rfl rfl rfl rfl ?_)))
  refine VC.condT rfl ?_
  (repeat (first | refine VC.seq ?_ | refine VC.region ?_ | refine VC.block ?_ | refine VC.label ?_ | refine VC.scope ?_ | refine VO.go (VO.nil ?_) | refine VO.go (VO.ld 0 rfl rfl rfl rfl ?_)))
  exact VC.ret (Ret.tmp 4 rfl rfl Ent.refl ⟨rfl, rfl⟩)
theorem share_no (n : Int) : Tri Tryd.prog 16 [v, .int .i64 n] Fr w [] (fun v L => v = .int .i64 0 ∧ L = []) := by
  refine Tri.of 32 Tryd.func16 rfl (by kernel_rfl) tabOk rfl rfl ?_
  (repeat (first | refine VC.seq ?_ | refine VC.region ?_ | refine VC.block ?_ | refine VC.label ?_ | refine VC.scope ?_ | refine VO.go (VO.nil ?_) | refine VO.go (VO.ld 0 rfl rfl rfl rfl ?_)))
  refine VO.go (VO.callV' (fun Fr w hF hs _ => isClass_no Fr w (h.of hF hs) n) rfl ?_)
  (repeat (first | refine VC.seq ?_ | refine VC.region ?_ | refine VC.block ?_ | refine VC.label ?_ | refine VC.scope ?_ | refine VO.go (VO.nil ?_) | refine VO.go (VO.ld 0 rfl rfl rfl rfl ?_)))
  refine VC.condT rfl ?_
  (repeat (first | refine VC.seq ?_ | refine VC.region ?_ | refine VC.block ?_ | refine VC.label ?_ | refine VC.scope ?_ | refine VO.go (VO.nil ?_) | refine VO.go (VO.ld 0 rfl rfl rfl rfl ?_)))
  exact VC.ret (Ret.tmp 4 rfl rfl Ent.refl ⟨rfl, rfl⟩)
theorem refused_no (n : Int) : Tri Tryd.prog 15 [v, .int .i64 n] Fr w [] (fun v L => v = .int .i64 0 ∧ L = []) := by
  refine Tri.of 22 Tryd.func15 rfl (by kernel_rfl) tabOk rfl rfl ?_
  (repeat (first | refine VC.seq ?_ | refine VC.region ?_ | refine VC.block ?_ | refine VC.label ?_ | refine VC.scope ?_ | refine VO.go (VO.nil ?_) | refine VO.go (VO.ld 0 rfl rfl rfl rfl ?_)))
  refine VO.go (VO.callV' (fun Fr w hF hs _ => made_no Fr w (h.of hF hs)) rfl ?_)
  (repeat (first | refine VC.seq ?_ | refine VC.region ?_ | refine VC.block ?_ | refine VC.label ?_ | refine VC.scope ?_ | refine VO.go (VO.nil ?_) | refine VO.go (VO.ld 0 rfl rfl rfl rfl ?_)))
  refine VO.go (VO.yes 8 true rfl rfl ?_)
  (repeat (first | refine VC.seq ?_ | refine VC.region ?_ | refine VC.block ?_ | refine VC.label ?_ | refine VC.scope ?_ | refine VO.go (VO.nil ?_) | refine VO.go (VO.ld 0 rfl rfl rfl rfl ?_)))
  refine VC.condT rfl ?_
  (repeat (first | refine VC.seq ?_ | refine VC.region ?_ | refine VC.block ?_ | refine VC.label ?_ | refine VC.scope ?_ | refine VO.go (VO.nil ?_) | refine VO.go (VO.ld 0 rfl rfl rfl rfl ?_)))
  exact VC.ret (Ret.tmp 4 rfl rfl Ent.refl ⟨rfl, rfl⟩)
theorem replies_no : Tri Tryd.prog 18 [v] Fr w [] (fun v L => v = .int .i64 0 ∧ L = []) := by
  refine Tri.of 13 Tryd.func18 rfl (by kernel_rfl) tabOk rfl rfl ?_
  (repeat (first | refine VC.seq ?_ | refine VC.region ?_ | refine VC.block ?_ | refine VC.label ?_ | refine VC.scope ?_ | refine VO.go (VO.nil ?_) | refine VO.go (VO.ld 0 rfl rfl rfl rfl ?_)))
  refine VO.go (VO.callV' (fun Fr w hF hs _ => made_no Fr w (h.of hF hs)) rfl ?_)
  (repeat (first | refine VC.seq ?_ | refine VC.region ?_ | refine VC.block ?_ | refine VC.label ?_ | refine VC.scope ?_ | refine VO.go (VO.nil ?_) | refine VO.go (VO.ld 0 rfl rfl rfl rfl ?_)))
  refine VC.condT rfl ?_
  (repeat (first | refine VC.seq ?_ | refine VC.region ?_ | refine VC.block ?_ | refine VC.label ?_ | refine VC.scope ?_ | refine VO.go (VO.nil ?_) | refine VO.go (VO.ld 0 rfl rfl rfl rfl ?_)))
  exact VC.ret (Ret.tmp 2 rfl rfl Ent.refl ⟨rfl, rfl⟩)
theorem table_no : Tri Tryd.prog 17 [v] Fr w [] (fun v L => v = .string ⟨#[]⟩ ∧ L = []) := by
  refine Tri.of 58 Tryd.func17 rfl (by kernel_rfl) tabOk rfl rfl ?_
  (repeat (first | refine VC.seq ?_ | refine VC.region ?_ | refine VC.block ?_ | refine VC.label ?_ | refine VC.scope ?_ | refine VO.go (VO.nil ?_) | refine VO.go (VO.ld 0 rfl rfl rfl rfl ?_)))
  refine VO.go (VO.callV' (fun Fr w hF hs _ => made_no Fr w (h.of hF hs)) rfl ?_)
  (repeat (first | refine VC.seq ?_ | refine VC.region ?_ | refine VC.block ?_ | refine VC.label ?_ | refine VC.scope ?_ | refine VO.go (VO.nil ?_) | refine VO.go (VO.ld 0 rfl rfl rfl rfl ?_)))
  refine VC.condT rfl ?_
  (repeat (first | refine VC.seq ?_ | refine VC.region ?_ | refine VC.block ?_ | refine VC.label ?_ | refine VC.scope ?_ | refine VO.go (VO.nil ?_) | refine VO.go (VO.ld 0 rfl rfl rfl rfl ?_)))
  exact VC.ret (Ret.tmp 2 rfl rfl Ent.refl ⟨rfl, rfl⟩)
theorem copy_no : Tri Tryd.prog 19 [v] Fr w [] (fun v L => v = .pointer none ∧ L = []) := by
  refine Tri.of 17 Tryd.func19 rfl (by kernel_rfl) tabOk rfl rfl ?_
  (repeat (first | refine VC.seq ?_ | refine VC.region ?_ | refine VC.block ?_ | refine VC.label ?_ | refine VC.scope ?_ | refine VO.go (VO.nil ?_) | refine VO.go (VO.ld 0 rfl rfl rfl rfl ?_)))
  refine VO.go (VO.callV' (fun Fr w hF hs _ => made_no Fr w (h.of hF hs)) rfl ?_)
  (repeat (first | refine VC.seq ?_ | refine VC.region ?_ | refine VC.block ?_ | refine VC.label ?_ | refine VC.scope ?_ | refine VO.go (VO.nil ?_) | refine VO.go (VO.ld 0 rfl rfl rfl rfl ?_)))
  refine VC.condT rfl ?_
  (repeat (first | refine VC.seq ?_ | refine VC.region ?_ | refine VC.block ?_ | refine VC.label ?_ | refine VC.scope ?_ | refine VO.go (VO.nil ?_) | refine VO.go (VO.ld 0 rfl rfl rfl rfl ?_)))
  exact VC.ret (Ret.tmp 2 rfl rfl Ent.refl ⟨rfl, rfl⟩)
theorem see_no (f : FG) : Tri Tryd.prog 12 [v, .agg (fgc f).toArray] Fr w [] (fun v L => v = .int .i64 1 ∧ L = []) := by
  refine Tri.of 68 Tryd.func12 rfl (by kernel_rfl) tabOk rfl rfl ?_
  (repeat (first | refine VC.seq ?_ | refine VC.region ?_ | refine VC.block ?_ | refine VC.label ?_ | refine VC.scope ?_ | refine VO.go (VO.nil ?_) | refine VO.go (VO.ld 0 rfl rfl rfl rfl ?_)))
  refine VO.go (VO.boxA (vs := fgc f) rfl fun b => ?_)
  (repeat (first | refine VC.seq ?_ | refine VC.region ?_ | refine VC.block ?_ | refine VC.label ?_ | refine VC.scope ?_ | refine VO.go (VO.nil ?_) | refine VO.go (VO.ld 0 rfl rfl rfl rfl ?_)))
  refine VO.go (VO.callV' (fun Fr w hF hs _ => made_no Fr w (h.of hF hs)) rfl ?_)
  (repeat (first | refine VC.seq ?_ | refine VC.region ?_ | refine VC.block ?_ | refine VC.label ?_ | refine VC.scope ?_ | refine VO.go (VO.nil ?_) | refine VO.go (VO.ld 0 rfl rfl rfl rfl ?_)))
  refine VC.condT rfl ?_
  (repeat (first | refine VC.seq ?_ | refine VC.region ?_ | refine VC.block ?_ | refine VC.label ?_ | refine VC.scope ?_ | refine VO.go (VO.nil ?_) | refine VO.go (VO.ld 0 rfl rfl rfl rfl ?_)))
  exact VC.ret (Ret.tmp 4 rfl rfl Imp.nil.ent ⟨rfl, rfl⟩)
end

/-! ### Lists that are too great -/
def big (x : FrameM) : Bool := decide ((100 : Int) < x.op.key.size) || decide ((100 : Int) < x.op.value.size)
def great (l : List FrameM) (most : Int) : Bool := l.any big || decide (most < l.length)
set_option maxRecDepth 100000 in
theorem great_spec (Fr : Nat → Prop) (w : World) {a : Option Addr} {cap : Nat} {l : List FG} (h : FsIn Fr w a l) (hl : l.length ≤ 9223372036854775807) (most : Int) :
    Tri Tryd.prog 9 [.slice a l.length cap, .int .i64 most] Fr w [] (fun v L => v = .bool (great (l.map Prod.fst) most) ∧ L = []) := by
  refine Tri.of 34 Tryd.func9 rfl (by kernel_rfl) tabOk rfl rfl ?_
  (repeat (first | refine VC.seq ?_ | refine VC.region ?_ | refine VC.block ?_ | refine VC.label ?_ | refine VC.scope ?_ | refine VO.go (VO.nil ?_) | refine VO.go (VO.ld 0 rfl rfl rfl rfl ?_)))
  refine VC.loop (σ := Nat) (fun i => [(0, .slice a l.length cap), (1, .int .i64 most), (5, .int .i64 i)]) (fun _ => []) (fun i => i ≤ l.length ∧ ∀ j x, j < i → l[j]? = some x → big x.1 = false) (fun i => l.length - i) 0 ⟨Nat.zero_le _, fun j x hj => by omega⟩ (Sub.cons rfl (Sub.cons rfl (Sub.cons rfl (Sub.nil _)))) Ent.refl ?_
  rintro i ⟨hi, hsm⟩
  (repeat (first | refine VC.seq ?_ | refine VC.region ?_ | refine VC.block ?_ | refine VC.label ?_ | refine VC.scope ?_ | refine VO.go (VO.nil ?_) | refine VO.go (VO.ld 0 rfl rfl rfl rfl ?_)))
  refine VC.condP rfl (fun h1 => VC.skip ?_) (fun h1 => VC.exit ?_)
  · have hi2 : i < l.length := by omega
    have hx := List.getElem?_eq_getElem hi2
    generalize l[i] = x at hx
    obtain ⟨fb, fo, rfl, _, rc⟩ := FsIn.rd (X := ⟨Tryd.prog, tab, tabOk, 34, Fr, w⟩) h hx
    have yes : big x.1 = true → great (l.map Prod.fst) most = true := fun hb => by
      unfold great
      rw [show (l.map Prod.fst).any big = true from List.any_eq_true.2 ⟨x.1, List.mem_map.2 ⟨x, List.mem_of_getElem? hx, rfl⟩, hb⟩]; rfl
    (repeat (first | refine VC.seq ?_ | refine VC.region ?_ | refine VC.block ?_ | refine VC.label ?_ | refine VC.scope ?_ | refine VO.go (VO.nil ?_) | refine VO.go (VO.ld 0 rfl rfl rfl rfl ?_)))
    refine VO.go (VO.light (light_idx i rfl rfl rfl rfl rfl rfl hi2) ?_)
    refine VO.go (VO.load rfl rfl (rc _ _ 8 _ rfl rfl) ?_)
    refine VO.go (VO.split 20 rfl rfl (fun h2 => ?_) (fun h2 => ?_))
    · have h2 := of_decide_eq_true h2
      (repeat (first | refine VC.seq ?_ | refine VC.region ?_ | refine VC.block ?_ | refine VC.label ?_ | refine VC.scope ?_ | refine VO.go (VO.nil ?_) | refine VO.go (VO.ld 0 rfl rfl rfl rfl ?_)))
      refine VC.condT rfl ?_
      (repeat (first | refine VC.seq ?_ | refine VC.region ?_ | refine VC.block ?_ | refine VC.label ?_ | refine VC.scope ?_ | refine VO.go (VO.nil ?_) | refine VO.go (VO.ld 0 rfl rfl rfl rfl ?_)))
      exact VC.ret (Ret.bool 4 rfl rfl (yes (by simp [big]; omega)).symm Ent.refl ⟨rfl, rfl⟩)
    · have h2 := of_decide_eq_false h2
      (repeat (first | refine VC.seq ?_ | refine VC.region ?_ | refine VC.block ?_ | refine VC.label ?_ | refine VC.scope ?_ | refine VO.go (VO.nil ?_) | refine VO.go (VO.ld 0 rfl rfl rfl rfl ?_)))
      refine VO.go (VO.light (light_idx i rfl rfl rfl rfl rfl rfl hi2) ?_)
      refine VO.go (VO.load rfl rfl (rc _ _ 9 _ rfl rfl) ?_)
      (repeat (first | refine VC.seq ?_ | refine VC.region ?_ | refine VC.block ?_ | refine VC.label ?_ | refine VC.scope ?_ | refine VO.go (VO.nil ?_) | refine VO.go (VO.ld 0 rfl rfl rfl rfl ?_)))
      refine VC.condP rfl (fun h3 => ?_) (fun h3 => VC.skip ?_)
      · (repeat (first | refine VC.seq ?_ | refine VC.region ?_ | refine VC.block ?_ | refine VC.label ?_ | refine VC.scope ?_ | refine VO.go (VO.nil ?_) | refine VO.go (VO.ld 0 rfl rfl rfl rfl ?_)))
        exact VC.ret (Ret.bool 4 rfl rfl (yes (by simp [big]; omega)).symm Ent.refl ⟨rfl, rfl⟩)
      · (repeat (first | refine VC.seq ?_ | refine VC.region ?_ | refine VC.block ?_ | refine VC.label ?_ | refine VC.scope ?_ | refine VO.go (VO.nil ?_) | refine VO.go (VO.ld 0 rfl rfl rfl rfl ?_)))
        refine VO.go (VO.add rfl rfl (by omega) (by omega) ?_)
        (repeat (first | refine VC.seq ?_ | refine VC.region ?_ | refine VC.block ?_ | refine VC.label ?_ | refine VC.scope ?_ | refine VO.go (VO.nil ?_) | refine VO.go (VO.ld 0 rfl rfl rfl rfl ?_)))
        refine ⟨i + 1, ⟨hi2, fun j y hj hy => ?_⟩, by dsimp only; omega, Sub.cons rfl (Sub.cons rfl (Sub.cons rfl (Sub.nil _))), Ent.refl⟩
        by_cases hji : j = i
        · subst hji
          obtain rfl := Option.some.inj (hx.symm.trans hy)
          simp [big]; omega
        · exact hsm j y (by omega) hy
  · have hi2 : i = l.length := by omega
    have no : (l.map Prod.fst).any big = false := by
      rw [List.any_eq_false]
      intro y hy
      obtain ⟨x, hx, rfl⟩ := List.mem_map.1 hy
      obtain ⟨j, hj⟩ := List.getElem?_of_mem hx
      have := hsm j x (by have := (List.getElem?_eq_some_iff.1 hj).1; omega) hj
      simp [this]
    (repeat (first | refine VC.seq ?_ | refine VC.region ?_ | refine VC.block ?_ | refine VC.label ?_ | refine VC.scope ?_ | refine VO.go (VO.nil ?_) | refine VO.go (VO.ld 0 rfl rfl rfl rfl ?_)))
    exact VC.ret (Ret.bool 4 rfl rfl (by rw [great, no, List.length_map]; rfl) Ent.refl ⟨rfl, rfl⟩)
theorem great_no {l : List FrameM} {most : Int} (h : great l most = false) : (l.length : Int) ≤ most ∧ ∀ x ∈ l, big x = false := by
  unfold great at h
  rw [Bool.or_eq_false_iff] at h
  exact ⟨by have := of_decide_eq_false h.2; omega, fun x hx => by simpa using (List.any_eq_false.1 h.1) x hx⟩
end Go.Proofs.YtoinocihlfmnnaaDoor.Met
