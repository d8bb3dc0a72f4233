/- Chains: where a node is, whether a chain may be, who is next. No condition. -/
import Derived.Test.YtbbnmgakmcppdaaGreatVgK
import Derived.Test.YtbbnmgakmcppdaaGreatApi
import Derived.Test.YtbbnmgakmcppdaaGreatTab
import Derived.Test.YtbbnmgakmcppdaaGreatVgX
namespace Go.Proofs.YtbbnmgakmcppdaaGreat.Ch
open Go Go.Proofs.YtbbnmgakmcppdaaGreat.Vg Go.Proofs.YtbbnmgakmcppdaaGreat.T Go.Proofs.YtbbnmgakmcppdaaGreat.Api
set_option linter.unusedSimpArgs false
set_option linter.unusedVariables false
attribute [local irreducible] VO VC VA

abbrev MemM := Int × Int
def memC (m : MemM) : List Value := [.int .i64 m.1, .int .i64 m.2]
theorem memC_len (m : MemM) : (memC m).length = 2 := rfl
theorem memC_one (m : MemM) : (memC m).all Value.oneCell' = true := rfl
abbrev memT : TypeId := 33
abbrev chT : TypeId := 36
structure ChM where
  epoch : Int
  ms : List MemM
  drain : Int
def ChM.cells (c : ChM) (a : Option Addr) (cap : Nat) : List Value := [.int .i64 c.epoch, .slice a c.ms.length cap, .int .i64 c.drain]
def placeOf (ms : List MemM) (n : Int) : Int := match ms.findIdx? (fun m => decide (m.1 = n)) with
  | some i => i
  | none => -1
theorem place_hit {ms : List MemM} {n : Int} {i : Nat} {m : MemM} (hm : ms[i]? = some m) (h : m.1 = n) (hno : ∀ j m, j < i → ms[j]? = some m → m.1 ≠ n) : placeOf ms n = i := by
  obtain ⟨h1, h2⟩ := List.getElem?_eq_some_iff.1 hm
  have : ms.findIdx? (fun m => decide (m.1 = n)) = some i := by
    rw [List.findIdx?_eq_some_iff_getElem]
    refine ⟨h1, by rw [h2]; simp [h], fun j hj => ?_⟩
    have := hno j _ hj (List.getElem?_eq_getElem (by omega))
    simpa using this
  rw [placeOf, this]
theorem place_miss {ms : List MemM} {n : Int} (hno : ∀ j m, j < ms.length → ms[j]? = some m → m.1 ≠ n) : placeOf ms n = -1 := by
  have : ms.findIdx? (fun m => decide (m.1 = n)) = none := by
    rw [List.findIdx?_eq_none_iff]
    intro m hm
    obtain ⟨j, h1, h2⟩ := List.getElem_of_mem hm
    have := hno j m h1 (by rw [List.getElem?_eq_getElem h1, h2])
    simpa using this
  rw [placeOf, this]
theorem place_range (ms : List MemM) (n : Int) : placeOf ms n = -1 ∨ ∃ (i : Nat) (m : MemM), placeOf ms n = i ∧ i < ms.length ∧ ms[i]? = some m ∧ m.1 = n := by
  unfold placeOf
  cases h : ms.findIdx? (fun m => decide (m.1 = n)) with
  | none => exact .inl rfl
  | some i =>
    obtain ⟨h1, h2, _⟩ := List.findIdx?_eq_some_iff_getElem.1 h
    exact .inr ⟨i, ms[i], rfl, h1, List.getElem?_eq_getElem h1, by simpa using h2⟩
section
variable {c : ChM} {a : Option Addr} {cap : Nat}
set_option maxRecDepth 100000 in
theorem place1_spec (Fr : Nat → Prop) (w : World) {b : Nat} (hb : Blk Fr w b (c.cells a cap)) (h : RwIn memC 2 Fr w a c.ms) (hl : c.ms.length ≤ 9223372036854775807) (n : Int) :
    Tri Tryz.prog 191 [.int .i64 n, .pointer (some ⟨b, 0, none⟩)] Fr w [] (fun v L => v = .int .i64 (placeOf c.ms n) ∧ L = []) := by
  refine Tri.of 20 Tryz.func191 rfl (by kernel_rfl) tabOk rfl rfl ?_
  (repeat (first|refine zS ?_|refine zR ?_|refine zB ?_|refine zL ?_|refine zC ?_|refine zG (zN ?_)|refine zG (zE rfl rfl (RdL.blk hb rfl) ?_)))
  refine VC.loop (σ := Nat) (fun i => [(0, .int .i64 n), (1, .pointer (some ⟨b, 0, none⟩)), (7, .slice a c.ms.length cap), (8, .int .i64 c.ms.length), (9, .int .i64 i)]) (fun _ => []) (fun i => i ≤ c.ms.length ∧ ∀ j m, j < i → c.ms[j]? = some m → m.1 ≠ n) (fun i => c.ms.length - i) 0
    ⟨Nat.zero_le _, fun j m hj => by omega⟩ (Sub.cons rfl (Sub.cons rfl (Sub.cons rfl (Sub.cons rfl (Sub.cons rfl (Sub.nil _)))))) Ent.refl ?_
  rintro i ⟨hi, hno⟩
  (repeat (first|refine zS ?_|refine zR ?_|refine zB ?_|refine zL ?_|refine zC ?_|refine zG (zN ?_)|refine zG (zD 0 rfl rfl rfl rfl ?_)))
  refine VC.condP rfl (fun h1 => VC.skip ?_) (fun h1 => VC.exit ?_)
  · have hi2 : i < c.ms.length := by omega
    obtain ⟨m, hm⟩ : ∃ m, c.ms[i]? = some m := ⟨_, List.getElem?_eq_getElem hi2⟩
    obtain ⟨mb, mo, hma, ra, rc⟩ := RwIn.rd (X := ⟨Tryz.prog, tab, tabOk, 20, Fr, w⟩) h hm
    subst hma
    (repeat (first|refine zS ?_|refine zR ?_|refine zB ?_|refine zL ?_|refine zC ?_|refine zG (zN ?_)|refine zG (zD 0 rfl rfl rfl rfl ?_)))
    refine VO.go (VO.light (light_idx i rfl rfl rfl rfl rfl rfl hi2) ?_)
    refine VO.go (VO.load rfl rfl (ra _ _ rfl rfl) ?_)
    refine VO.go (VO.alloc rfl fun xb => ?_)
    refine VO.go (VO.stA (vs := memC m) 0 rfl rfl rfl rfl (Nat.le_refl _) rfl rfl rfl ?_)
    (repeat (first|refine zS ?_|refine zR ?_|refine zB ?_|refine zL ?_|refine zC ?_|refine zG (zN ?_)|refine zG (zD 0 rfl rfl rfl rfl ?_)))
    refine VC.condE rfl (fun h2 => ?_) (fun h2 => VC.skip ?_)
    · (repeat (first|refine zS ?_|refine zR ?_|refine zB ?_|refine zL ?_|refine zC ?_|refine zG (zN ?_)|refine zG (zD 0 rfl rfl rfl rfl ?_)))
      exact VC.ret (Ret.tmp 3 rfl rfl Imp.nil.ent ⟨by rw [place_hit hm h2 hno], rfl⟩)
    · (repeat (first|refine zS ?_|refine zR ?_|refine zB ?_|refine zL ?_|refine zC ?_|refine zG (zN ?_)|refine zG (zD 0 rfl rfl rfl rfl ?_)))
      refine VO.go (VO.add rfl rfl (by omega) (by omega) ?_)
      (repeat (first|refine zS ?_|refine zR ?_|refine zB ?_|refine zL ?_|refine zC ?_|refine zG (zN ?_)|refine zG (zD 0 rfl rfl rfl rfl ?_)))
      exact ⟨i + 1, ⟨hi2, fun j m' hj hm' => by
        by_cases hji : j = i
        · subst hji; rw [hm] at hm'; cases hm'; exact h2
        · exact hno j m' (by omega) hm'⟩, by dsimp only; omega, Sub.cons rfl (Sub.cons rfl (Sub.cons rfl (Sub.cons rfl (Sub.cons rfl (Sub.nil _))))), Imp.nil.ent⟩
  · obtain rfl : i = c.ms.length := by omega
    (repeat (first|refine zS ?_|refine zR ?_|refine zB ?_|refine zL ?_|refine zC ?_|refine zG (zN ?_)|refine zG (zD 0 rfl rfl rfl rfl ?_)))
    exact VC.ret (Ret.tmp 3 rfl rfl Imp.nil.ent ⟨by rw [place_miss hno], rfl⟩)
theorem places_spec (Fr : Nat → Prop) (w : World) : Tri Tryz.prog 132 [.agg (c.cells a cap).toArray] Fr w [] (fun v L => ∃ b, v = fnV 191 [] [.pointer (some ⟨b, 0, none⟩)] ∧ L = [pt b (c.cells a cap) chT]) := by
  refine Tri.of 4 Tryz.func132 rfl (by kernel_rfl) tabOk rfl rfl ?_
  refine VC.seq (VC.region (VO.go (VO.boxA (vs := c.cells a cap) rfl fun b => ?_)))
  (repeat (first|refine zS ?_|refine zR ?_|refine zB ?_|refine zL ?_|refine zC ?_|refine zG (zN ?_)|refine zG (zD 0 rfl rfl rfl rfl ?_)))
  refine VO.go (VO.light (light_makeFunc (u := []) (v := [.pointer (some ⟨b, 0, none⟩)]) rfl rfl) ?_)
  (repeat (first|refine zS ?_|refine zR ?_|refine zB ?_|refine zL ?_|refine zC ?_|refine zG (zN ?_)|refine zG (zD 0 rfl rfl rfl rfl ?_)))
  exact VC.ret (Ret.tmp 2 rfl rfl Ent.refl ⟨b, rfl, rfl⟩)
def nodeB (n : Int) : Bool := decide (0 ≤ n) && decide (n < 6)
theorem node_spec (Fr : Nat → Prop) (w : World) (n : Int) : Tri Tryz.prog 139 [.int .i64 n] Fr w [] (fun v L => v = .bool (nodeB n) ∧ L = []) := by
  refine Tri.of 9 Tryz.func139 rfl (by kernel_rfl) tabOk rfl rfl ?_
  (repeat (first|refine zS ?_|refine zR ?_|refine zB ?_|refine zL ?_|refine zC ?_|refine zG (zN ?_)|refine zG (zD 0 rfl rfl rfl rfl ?_)))
  by_cases h1 : 0 ≤ n
  · refine VO.go (VO.yes 5 true rfl (decide_eq_true h1) ?_)
    (repeat (first|refine zS ?_|refine zR ?_|refine zB ?_|refine zL ?_|refine zC ?_|refine zG (zN ?_)|refine zG (zD 0 rfl rfl rfl rfl ?_)|refine zG (zU rfl rfl rfl ?_)))
    exact VC.ret (Ret.bool 2 rfl rfl (by simp [nodeB, h1]) Ent.refl ⟨rfl, rfl⟩)
  · refine VO.go (VO.yes 5 false rfl (decide_eq_false h1) ?_)
    (repeat (first|refine zS ?_|refine zR ?_|refine zB ?_|refine zL ?_|refine zC ?_|refine zG (zN ?_)|refine zG (zD 0 rfl rfl rfl rfl ?_)|refine zG (zU rfl rfl rfl ?_)))
    exact VC.ret (Ret.bool 2 rfl rfl (by simp [nodeB, h1]) Ent.refl ⟨rfl, rfl⟩)
def memOk (c : ChM) (i : Nat) : Bool := match c.ms[i]? with
  | some m => nodeB m.1 && (decide (placeOf c.ms m.1 = i) && (decide (1 ≤ m.2) && decide (m.2 ≤ c.epoch)))
  | none => true
def headOk (c : ChM) : Bool := decide (1 ≤ c.epoch) && (decide (c.epoch ≤ 1099511627776) && (decide (1 ≤ c.ms.length) && decide (c.ms.length ≤ 6)))
def drainOk (c : ChM) : Bool := decide (c.drain = -1) || decide (0 ≤ placeOf c.ms c.drain)
def chOk (c : ChM) : Bool := headOk c && ((List.range c.ms.length).all (memOk c) && drainOk c)
def chE (c : ChM) : Int := if chOk c then 0 else 2
set_option maxRecDepth 100000 in
set_option maxHeartbeats 2000000 in
theorem check_spec (Fr : Nat → Prop) (w : World) (h : RwIn memC 2 Fr w a c.ms) (hl : c.ms.length ≤ 9223372036854775807) : Tri Tryz.prog 60 [.agg (c.cells a cap).toArray] Fr w [] (fun v L => v = .int .i64 (chE c) ∧ L = []) := by
  refine Tri.of 71 Tryz.func60 rfl (by kernel_rfl) tabOk rfl rfl ?_
  refine VC.seq (VC.region (VO.go (VO.boxA (vs := c.cells a cap) rfl fun b => ?_)))
  refine VO.go (VO.nil (VC.seq (VC.seq ?_)))
  refine VC.meetS (σ := Unit) (fun _ => [(1, .pointer (some ⟨b, 0, none⟩)), (25, .bool (!headOk c))]) (fun _ => [pt b (c.cells a cap) chT]) (fun _ => True) ?_ ?_
  · (repeat (first|refine zS ?_|refine zR ?_|refine zB ?_|refine zL ?_|refine zC ?_|refine zG (zN ?_)|refine zG (zD 0 rfl rfl rfl rfl ?_)))
    by_cases h1 : c.epoch < 1
    · refine VO.go (VO.yes 9 true rfl (decide_eq_true h1) ?_)
      (repeat (first|refine zS ?_|refine zR ?_|refine zB ?_|refine zL ?_|refine zC ?_|refine zG (zN ?_)|refine zG (zD 0 rfl rfl rfl rfl ?_)|refine zG (zU rfl rfl rfl ?_)))
      refine VO.go (VO.yes 14 true rfl rfl ?_)
      (repeat (first|refine zS ?_|refine zR ?_|refine zB ?_|refine zL ?_|refine zC ?_|refine zG (zN ?_)|refine zG (zD 0 rfl rfl rfl rfl ?_)|refine zG (zU rfl rfl rfl ?_)))
      refine VO.go (VO.yes 20 true rfl rfl ?_)
      (repeat (first|refine zS ?_|refine zR ?_|refine zB ?_|refine zL ?_|refine zC ?_|refine zG (zN ?_)|refine zG (zD 0 rfl rfl rfl rfl ?_)|refine zG (zU rfl rfl rfl ?_)))
      exact ⟨(), trivial, Sub.cons rfl (Sub.bl rfl (by simp [headOk]; omega) (Sub.nil _)), Ent.refl⟩
    refine VO.go (VO.yes 9 false rfl (decide_eq_false h1) ?_)
    (repeat (first|refine zS ?_|refine zR ?_|refine zB ?_|refine zL ?_|refine zC ?_|refine zG (zN ?_)|refine zG (zD 0 rfl rfl rfl rfl ?_)|refine zG (zU rfl rfl rfl ?_)))
    by_cases h2 : 1099511627776 < c.epoch
    · refine VO.go (VO.yes 14 true rfl (decide_eq_true h2) ?_)
      (repeat (first|refine zS ?_|refine zR ?_|refine zB ?_|refine zL ?_|refine zC ?_|refine zG (zN ?_)|refine zG (zD 0 rfl rfl rfl rfl ?_)|refine zG (zU rfl rfl rfl ?_)))
      refine VO.go (VO.yes 20 true rfl rfl ?_)
      (repeat (first|refine zS ?_|refine zR ?_|refine zB ?_|refine zL ?_|refine zC ?_|refine zG (zN ?_)|refine zG (zD 0 rfl rfl rfl rfl ?_)|refine zG (zU rfl rfl rfl ?_)))
      exact ⟨(), trivial, Sub.cons rfl (Sub.bl rfl (by simp [headOk]; omega) (Sub.nil _)), Ent.refl⟩
    refine VO.go (VO.yes 14 false rfl (decide_eq_false h2) ?_)
    (repeat (first|refine zS ?_|refine zR ?_|refine zB ?_|refine zL ?_|refine zC ?_|refine zG (zN ?_)|refine zG (zD 0 rfl rfl rfl rfl ?_)|refine zG (zU rfl rfl rfl ?_)))
    by_cases h3 : (c.ms.length : Int) < 1
    · refine VO.go (VO.yes 20 true rfl (decide_eq_true h3) ?_)
      (repeat (first|refine zS ?_|refine zR ?_|refine zB ?_|refine zL ?_|refine zC ?_|refine zG (zN ?_)|refine zG (zD 0 rfl rfl rfl rfl ?_)|refine zG (zU rfl rfl rfl ?_)))
      exact ⟨(), trivial, Sub.cons rfl (Sub.bl rfl (by rw [headOk, decide_eq_false (show ¬ 1 ≤ c.ms.length by omega)]; simp) (Sub.nil _)), Ent.refl⟩
    refine VO.go (VO.yes 20 false rfl (decide_eq_false h3) ?_)
    (repeat (first|refine zS ?_|refine zR ?_|refine zB ?_|refine zL ?_|refine zC ?_|refine zG (zN ?_)|refine zG (zD 0 rfl rfl rfl rfl ?_)|refine zG (zU rfl rfl rfl ?_)))
    refine ⟨(), trivial, Sub.cons rfl (Sub.bl rfl ?_ (Sub.nil _)), Ent.refl⟩
    have e1 : decide (1 ≤ c.epoch) = true := decide_eq_true (by omega)
    have e2 : decide (c.epoch ≤ 1099511627776) = true := decide_eq_true (by omega)
    have e3 : decide (1 ≤ c.ms.length) = true := decide_eq_true (by omega)
    rw [headOk, e1, e2, e3]
    by_cases h4 : 6 < (c.ms.length : Int)
    · rw [decide_eq_true h4, decide_eq_false (show ¬ c.ms.length ≤ 6 by omega)]; rfl
    · rw [decide_eq_false h4, decide_eq_true (show c.ms.length ≤ 6 by omega)]; rfl
  rintro _ -
  refine VC.condN rfl (fun hh => ?_) (fun hh => VC.skip ?_)
  · (repeat (first|refine zS ?_|refine zR ?_|refine zB ?_|refine zL ?_|refine zC ?_|refine zG (zN ?_)|refine zG (zD 0 rfl rfl rfl rfl ?_)))
    exact VC.ret (Ret.tmp 2 rfl rfl Imp.nil.ent ⟨by rw [chE, chOk, hh]; rfl, rfl⟩)
  (repeat (first|refine zS ?_|refine zR ?_|refine zB ?_|refine zL ?_|refine zC ?_|refine zG (zN ?_)|refine zG (zD 0 rfl rfl rfl rfl ?_)))
  refine VO.go (VO.ldA 0 (c.cells a cap) rfl rfl rfl rfl ?_)
  refine VO.go (VO.call (Lc := []) (fun Fr w hF hw _ => places_spec (c := c) (a := a) (cap := cap) Fr w) rfl rfl ?_)
  rintro _ _ ⟨pb, rfl, rfl⟩
  (repeat (first|refine zS ?_|refine zR ?_|refine zB ?_|refine zL ?_|refine zC ?_|refine zG (zN ?_)|refine zG (zD 0 rfl rfl rfl rfl ?_)|refine zG (zD 1 rfl rfl rfl rfl ?_)))
  have hmv : ∀ (i : Nat), memOk c i = false → i < c.ms.length → chOk c = false := fun i h1 h2 => by
    have : (List.range c.ms.length).all (memOk c) = false := by
      rw [List.all_eq_false]; exact ⟨i, List.mem_range.2 h2, by rw [h1]; simp⟩
    rw [chOk, this]; simp
  refine VC.loop (σ := Nat) (fun i => [(1, .pointer (some ⟨b, 0, none⟩)), (3, fnV 191 [] [.pointer (some ⟨pb, 0, none⟩)]), (29, .slice a c.ms.length cap), (30, .int .i64 c.ms.length), (31, .int .i64 i)]) (fun _ => [pt pb (c.cells a cap) chT, pt b (c.cells a cap) chT]) (fun i => i ≤ c.ms.length ∧ (List.range i).all (memOk c) = true) (fun i => c.ms.length - i) 0
    ⟨Nat.zero_le _, rfl⟩ (Sub.cons rfl (Sub.cons rfl (Sub.cons rfl (Sub.cons rfl (Sub.cons rfl (Sub.nil _)))))) Ent.refl ?_
  rintro i ⟨hi, hall⟩
  (repeat (first|refine zS ?_|refine zR ?_|refine zB ?_|refine zL ?_|refine zC ?_|refine zG (zN ?_)|refine zG (zD 0 rfl rfl rfl rfl ?_)))
  refine VC.condP rfl (fun h1 => VC.skip ?_) (fun h1 => VC.exit ?_)
  · have hi2 : i < c.ms.length := by omega
    obtain ⟨m, hm⟩ : ∃ m, c.ms[i]? = some m := ⟨_, List.getElem?_eq_getElem hi2⟩
    have hmo : memOk c i = (nodeB m.1 && (decide (placeOf c.ms m.1 = i) && (decide (1 ≤ m.2) && decide (m.2 ≤ c.epoch)))) := by rw [memOk, hm]
    obtain ⟨mb, mo, hma, ra, rc⟩ := RwIn.rd (X := ⟨Tryz.prog, tab, tabOk, 71, Fr, w⟩) h hm
    subst hma
    (repeat (first|refine zS ?_|refine zR ?_|refine zB ?_|refine zL ?_|refine zC ?_|refine zG (zN ?_)|refine zG (zD 0 rfl rfl rfl rfl ?_)))
    refine VO.go (VO.light (light_idx i rfl rfl rfl rfl rfl rfl hi2) ?_)
    refine VO.go (VO.load rfl rfl (ra _ _ rfl rfl) ?_)
    refine VO.go (VO.alloc rfl fun xb => ?_)
    refine VO.go (VO.stA (vs := memC m) 0 rfl rfl rfl rfl (Nat.le_refl _) rfl rfl rfl (VO.go (VO.nil ?_)))
    refine VC.seq ?_
    refine VC.meetS (σ := Unit) (fun _ => [(1, .pointer (some ⟨b, 0, none⟩)), (3, fnV 191 [] [.pointer (some ⟨pb, 0, none⟩)]), (29, .slice (some ⟨mb, mo, none⟩) c.ms.length cap), (30, .int .i64 c.ms.length), (31, .int .i64 i), (59, .bool (!memOk c i))]) (fun _ => [pt pb (c.cells (some ⟨mb, mo, none⟩) cap) chT, pt b (c.cells (some ⟨mb, mo, none⟩) cap) chT]) (fun _ => True) ?_ ?_
    · have S3 : ∀ {E : Env} {t : Bool}, Vg.look E 59 = some (.bool t) → t = (!memOk c i) → Vg.look E 1 = some (.pointer (some ⟨b, 0, none⟩)) → Vg.look E 3 = some (fnV 191 [] [.pointer (some ⟨pb, 0, none⟩)]) → Vg.look E 29 = some (.slice (some ⟨mb, mo, none⟩) c.ms.length cap) → Vg.look E 30 = some (.int .i64 c.ms.length) → Vg.look E 31 = some (.int .i64 i) →
          Sub [(1, .pointer (some ⟨b, 0, none⟩)), (3, fnV 191 [] [.pointer (some ⟨pb, 0, none⟩)]), (29, .slice (some ⟨mb, mo, none⟩) c.ms.length cap), (30, .int .i64 c.ms.length), (31, .int .i64 i), (59, .bool (!memOk c i))] E := fun h0 h1 h2 h3 h4 h5 h6 => Sub.cons h2 (Sub.cons h3 (Sub.cons h4 (Sub.cons h5 (Sub.cons h6 (Sub.bl h0 h1 (Sub.nil _))))))
      (repeat (first|refine zS ?_|refine zR ?_|refine zB ?_|refine zL ?_|refine zC ?_|refine zG (zN ?_)|refine zG (zD 0 rfl rfl rfl rfl ?_)|refine zG (zD 1 rfl rfl rfl rfl ?_)|refine zG (zD 2 rfl rfl rfl rfl ?_)))
      refine VO.go (VO.callV (fun Fr w => node_spec Fr w m.1) rfl ?_)
      (repeat (first|refine zS ?_|refine zR ?_|refine zB ?_|refine zL ?_|refine zC ?_|refine zG (zN ?_)|refine zG (zD 0 rfl rfl rfl rfl ?_)|refine zG (zD 1 rfl rfl rfl rfl ?_)|refine zG (zD 2 rfl rfl rfl rfl ?_)))
      cases hn : nodeB m.1 with
      | false =>
        refine VO.go (VO.yes 40 true rfl rfl ?_)
        (repeat (first|refine zS ?_|refine zR ?_|refine zB ?_|refine zL ?_|refine zC ?_|refine zG (zN ?_)|refine zG (zD 0 rfl rfl rfl rfl ?_)|refine zG (zD 1 rfl rfl rfl rfl ?_)|refine zG (zD 2 rfl rfl rfl rfl ?_)|refine zG (zU rfl rfl rfl ?_)))
        refine VO.go (VO.yes 48 true rfl rfl ?_)
        (repeat (first|refine zS ?_|refine zR ?_|refine zB ?_|refine zL ?_|refine zC ?_|refine zG (zN ?_)|refine zG (zD 0 rfl rfl rfl rfl ?_)|refine zG (zD 1 rfl rfl rfl rfl ?_)|refine zG (zD 2 rfl rfl rfl rfl ?_)|refine zG (zU rfl rfl rfl ?_)))
        refine VO.go (VO.yes 53 true rfl rfl ?_)
        (repeat (first|refine zS ?_|refine zR ?_|refine zB ?_|refine zL ?_|refine zC ?_|refine zG (zN ?_)|refine zG (zD 0 rfl rfl rfl rfl ?_)|refine zG (zD 1 rfl rfl rfl rfl ?_)|refine zG (zD 2 rfl rfl rfl rfl ?_)|refine zG (zU rfl rfl rfl ?_)))
        exact ⟨(), trivial, S3 rfl (by rw [hmo, hn]; rfl) rfl rfl rfl rfl rfl, (Imp.pick 1 rfl (Imp.pick 1 rfl Imp.nil)).ent⟩
      | true =>
      refine VO.go (VO.yes 40 false rfl rfl ?_)
      (repeat (first|refine zS ?_|refine zR ?_|refine zB ?_|refine zL ?_|refine zC ?_|refine zG (zN ?_)|refine zG (zD 0 rfl rfl rfl rfl ?_)|refine zG (zD 1 rfl rfl rfl rfl ?_)|refine zG (zD 2 rfl rfl rfl rfl ?_)|refine zG (zU rfl rfl rfl ?_)))
      refine VO.go (VO.callFV (u := .int .i64 (placeOf c.ms m.1)) rfl (fun Fr w hF hs hS => place1_spec Fr w (hS.blk 1 rfl) (h.of hF hs) hl m.1) rfl ?_)
      (repeat (first|refine zS ?_|refine zR ?_|refine zB ?_|refine zL ?_|refine zC ?_|refine zG (zN ?_)|refine zG (zD 0 rfl rfl rfl rfl ?_)|refine zG (zD 1 rfl rfl rfl rfl ?_)|refine zG (zD 2 rfl rfl rfl rfl ?_)|refine zG (zU rfl rfl rfl ?_)))
      by_cases h2 : placeOf c.ms m.1 = i
      · refine VO.go (VO.yes 48 false rfl (by simp [h2]) ?_)
        (repeat (first|refine zS ?_|refine zR ?_|refine zB ?_|refine zL ?_|refine zC ?_|refine zG (zN ?_)|refine zG (zD 0 rfl rfl rfl rfl ?_)|refine zG (zD 1 rfl rfl rfl rfl ?_)|refine zG (zD 2 rfl rfl rfl rfl ?_)|refine zG (zU rfl rfl rfl ?_)))
        by_cases h3 : m.2 < 1
        · refine VO.go (VO.yes 53 true rfl (decide_eq_true h3) ?_)
          (repeat (first|refine zS ?_|refine zR ?_|refine zB ?_|refine zL ?_|refine zC ?_|refine zG (zN ?_)|refine zG (zD 0 rfl rfl rfl rfl ?_)|refine zG (zD 1 rfl rfl rfl rfl ?_)|refine zG (zD 2 rfl rfl rfl rfl ?_)|refine zG (zU rfl rfl rfl ?_)))
          exact ⟨(), trivial, S3 rfl (by rw [hmo, decide_eq_false (show ¬ 1 ≤ m.2 by omega)]; simp) rfl rfl rfl rfl rfl, (Imp.pick 1 rfl (Imp.pick 1 rfl Imp.nil)).ent⟩
        refine VO.go (VO.yes 53 false rfl (decide_eq_false h3) ?_)
        (repeat (first|refine zS ?_|refine zR ?_|refine zB ?_|refine zL ?_|refine zC ?_|refine zG (zN ?_)|refine zG (zD 0 rfl rfl rfl rfl ?_)|refine zG (zD 1 rfl rfl rfl rfl ?_)|refine zG (zD 2 rfl rfl rfl rfl ?_)|refine zG (zU rfl rfl rfl ?_)))
        exact ⟨(), trivial, S3 rfl (by
          rw [hmo, hn, decide_eq_true h2, decide_eq_true (show 1 ≤ m.2 by omega)]
          by_cases h4 : c.epoch < m.2
          · rw [decide_eq_true h4, decide_eq_false (show ¬ m.2 ≤ c.epoch by omega)]; rfl
          · rw [decide_eq_false h4, decide_eq_true (show m.2 ≤ c.epoch by omega)]; rfl) rfl rfl rfl rfl rfl, (Imp.pick 1 rfl (Imp.pick 1 rfl Imp.nil)).ent⟩
      · refine VO.go (VO.yes 48 true rfl (by simp [h2]) ?_)
        (repeat (first|refine zS ?_|refine zR ?_|refine zB ?_|refine zL ?_|refine zC ?_|refine zG (zN ?_)|refine zG (zD 0 rfl rfl rfl rfl ?_)|refine zG (zD 1 rfl rfl rfl rfl ?_)|refine zG (zD 2 rfl rfl rfl rfl ?_)|refine zG (zU rfl rfl rfl ?_)))
        refine VO.go (VO.yes 53 true rfl rfl ?_)
        (repeat (first|refine zS ?_|refine zR ?_|refine zB ?_|refine zL ?_|refine zC ?_|refine zG (zN ?_)|refine zG (zD 0 rfl rfl rfl rfl ?_)|refine zG (zD 1 rfl rfl rfl rfl ?_)|refine zG (zD 2 rfl rfl rfl rfl ?_)|refine zG (zU rfl rfl rfl ?_)))
        exact ⟨(), trivial, S3 rfl (by rw [hmo, decide_eq_false h2]; simp) rfl rfl rfl rfl rfl, (Imp.pick 1 rfl (Imp.pick 1 rfl Imp.nil)).ent⟩
    rintro _ -
    refine VC.condN rfl (fun hb => ?_) (fun hb => VC.skip ?_)
    · (repeat (first|refine zS ?_|refine zR ?_|refine zB ?_|refine zL ?_|refine zC ?_|refine zG (zN ?_)|refine zG (zD 0 rfl rfl rfl rfl ?_)))
      exact VC.ret (Ret.tmp 2 rfl rfl Imp.nil.ent ⟨by rw [chE, hmv i hb hi2]; rfl, rfl⟩)
    · (repeat (first|refine zS ?_|refine zR ?_|refine zB ?_|refine zL ?_|refine zC ?_|refine zG (zN ?_)|refine zG (zD 0 rfl rfl rfl rfl ?_)))
      refine VO.go (VO.add rfl rfl (by omega) (by omega) ?_)
      (repeat (first|refine zS ?_|refine zR ?_|refine zB ?_|refine zL ?_|refine zC ?_|refine zG (zN ?_)|refine zG (zD 0 rfl rfl rfl rfl ?_)))
      exact ⟨i + 1, ⟨hi2, by rw [List.range_succ, List.all_append, hall]; simp [hb]⟩, by dsimp only; omega, Sub.cons rfl (Sub.cons rfl (Sub.cons rfl (Sub.cons rfl (Sub.cons rfl (Sub.nil _))))), Ent.refl⟩
  · obtain rfl : i = c.ms.length := by omega
    have hce : chE c = if drainOk c then 0 else 2 := by rw [chE, chOk, hh, hall]; simp
    (repeat (first|refine zS ?_|refine zR ?_|refine zB ?_|refine zL ?_|refine zC ?_|refine zG (zN ?_)|refine zG (zD 0 rfl rfl rfl rfl ?_)|refine zG (zD 1 rfl rfl rfl rfl ?_)))
    by_cases hd : c.drain = -1
    · refine VO.go (VO.yes 64 false rfl (by simp [hd]) ?_)
      (repeat (first|refine zS ?_|refine zR ?_|refine zB ?_|refine zL ?_|refine zC ?_|refine zG (zN ?_)|refine zG (zD 0 rfl rfl rfl rfl ?_)|refine zG (zD 1 rfl rfl rfl rfl ?_)|refine zG (zU rfl rfl rfl ?_)))
      refine VC.condF rfl (VC.skip ?_)
      (repeat (first|refine zS ?_|refine zR ?_|refine zB ?_|refine zL ?_|refine zC ?_|refine zG (zN ?_)|refine zG (zD 0 rfl rfl rfl rfl ?_)))
      exact VC.ret (Ret.tmp 2 rfl rfl Imp.nil.ent ⟨by rw [hce, drainOk, decide_eq_true hd]; rfl, rfl⟩)
    · refine VO.go (VO.yes 64 true rfl (by simp [hd]) ?_)
      (repeat (first|refine zS ?_|refine zR ?_|refine zB ?_|refine zL ?_|refine zC ?_|refine zG (zN ?_)|refine zG (zD 0 rfl rfl rfl rfl ?_)|refine zG (zD 1 rfl rfl rfl rfl ?_)|refine zG (zU rfl rfl rfl ?_)))
      refine VO.go (VO.callFV (u := .int .i64 (placeOf c.ms c.drain)) rfl (fun Fr w hF hs hS => place1_spec Fr w (hS.blk 0 rfl) (h.of hF hs) hl c.drain) rfl ?_)
      (repeat (first|refine zS ?_|refine zR ?_|refine zB ?_|refine zL ?_|refine zC ?_|refine zG (zN ?_)|refine zG (zD 0 rfl rfl rfl rfl ?_)|refine zG (zD 1 rfl rfl rfl rfl ?_)|refine zG (zU rfl rfl rfl ?_)))
      refine VC.condP rfl (fun h5 => ?_) (fun h5 => VC.skip ?_)
      · (repeat (first|refine zS ?_|refine zR ?_|refine zB ?_|refine zL ?_|refine zC ?_|refine zG (zN ?_)|refine zG (zD 0 rfl rfl rfl rfl ?_)))
        exact VC.ret (Ret.tmp 2 rfl rfl Imp.nil.ent ⟨by rw [hce, drainOk, decide_eq_false hd, decide_eq_false (by omega)]; rfl, rfl⟩)
      · (repeat (first|refine zS ?_|refine zR ?_|refine zB ?_|refine zL ?_|refine zC ?_|refine zG (zN ?_)|refine zG (zD 0 rfl rfl rfl rfl ?_)))
        exact VC.ret (Ret.tmp 2 rfl rfl Imp.nil.ent ⟨by rw [hce, drainOk, decide_eq_true (show 0 ≤ placeOf c.ms c.drain by omega)]; simp, rfl⟩)

def memAt (c : ChM) (i : Int) : Int := if chOk c ∧ 0 ≤ i ∧ i < c.ms.length then ((c.ms[i.toNat]?).getD (0, 0)).1 else -1
set_option maxRecDepth 100000 in
theorem member_spec (Fr : Nat → Prop) (w : World) (h : RwIn memC 2 Fr w a c.ms) (hl : c.ms.length ≤ 9223372036854775807) (i : Int) : Tri Tryz.prog 205 [.agg (c.cells a cap).toArray, .int .i64 i] Fr w [] (fun v L => v = .int .i64 (memAt c i) ∧ L = []) := by
  refine Tri.of 25 Tryz.func205 rfl (by kernel_rfl) tabOk rfl rfl ?_
  refine VC.seq (VC.region (VO.go (VO.boxA (vs := c.cells a cap) rfl fun b => ?_)))
  (repeat (first|refine zS ?_|refine zR ?_|refine zB ?_|refine zL ?_|refine zC ?_|refine zG (zN ?_)|refine zG (zD 0 rfl rfl rfl rfl ?_)))
  refine VO.go (VO.ldA 0 (c.cells a cap) rfl rfl rfl rfl ?_)
  refine VO.go (VO.callV' (fun Fr w hF hs hS => check_spec Fr w (h.of hF hs) hl) rfl ?_)
  (repeat (first|refine zS ?_|refine zR ?_|refine zB ?_|refine zL ?_|refine zC ?_|refine zG (zN ?_)|refine zG (zD 0 rfl rfl rfl rfl ?_)))
  cases hc : chOk c with
  | false =>
    refine VO.go (VO.yes 8 true rfl (by rw [chE, hc]; rfl) ?_)
    (repeat (first|refine zS ?_|refine zR ?_|refine zB ?_|refine zL ?_|refine zC ?_|refine zG (zN ?_)|refine zG (zD 0 rfl rfl rfl rfl ?_)|refine zG (zU rfl rfl rfl ?_)))
    refine VO.go (VO.yes 12 true rfl rfl ?_)
    (repeat (first|refine zS ?_|refine zR ?_|refine zB ?_|refine zL ?_|refine zC ?_|refine zG (zN ?_)|refine zG (zD 0 rfl rfl rfl rfl ?_)|refine zG (zU rfl rfl rfl ?_)))
    refine VC.condT rfl ?_
    (repeat (first|refine zS ?_|refine zR ?_|refine zB ?_|refine zL ?_|refine zC ?_|refine zG (zN ?_)|refine zG (zD 0 rfl rfl rfl rfl ?_)))
    exact VC.ret (Ret.tmp 4 rfl rfl Imp.nil.ent ⟨by rw [memAt, if_neg (by rw [hc]; simp)], rfl⟩)
  | true =>
  refine VO.go (VO.yes 8 false rfl (by rw [chE, hc]; rfl) ?_)
  (repeat (first|refine zS ?_|refine zR ?_|refine zB ?_|refine zL ?_|refine zC ?_|refine zG (zN ?_)|refine zG (zD 0 rfl rfl rfl rfl ?_)|refine zG (zU rfl rfl rfl ?_)))
  by_cases h1 : i < 0
  · refine VO.go (VO.yes 12 true rfl (decide_eq_true h1) ?_)
    (repeat (first|refine zS ?_|refine zR ?_|refine zB ?_|refine zL ?_|refine zC ?_|refine zG (zN ?_)|refine zG (zD 0 rfl rfl rfl rfl ?_)|refine zG (zU rfl rfl rfl ?_)))
    refine VC.condT rfl ?_
    (repeat (first|refine zS ?_|refine zR ?_|refine zB ?_|refine zL ?_|refine zC ?_|refine zG (zN ?_)|refine zG (zD 0 rfl rfl rfl rfl ?_)))
    exact VC.ret (Ret.tmp 4 rfl rfl Imp.nil.ent ⟨by rw [memAt, if_neg (by omega)], rfl⟩)
  refine VO.go (VO.yes 12 false rfl (decide_eq_false h1) ?_)
  (repeat (first|refine zS ?_|refine zR ?_|refine zB ?_|refine zL ?_|refine zC ?_|refine zG (zN ?_)|refine zG (zD 0 rfl rfl rfl rfl ?_)|refine zG (zU rfl rfl rfl ?_)))
  refine VC.condP rfl (fun h2 => ?_) (fun h2 => VC.skip ?_)
  · (repeat (first|refine zS ?_|refine zR ?_|refine zB ?_|refine zL ?_|refine zC ?_|refine zG (zN ?_)|refine zG (zD 0 rfl rfl rfl rfl ?_)))
    exact VC.ret (Ret.tmp 4 rfl rfl Imp.nil.ent ⟨by rw [memAt, if_neg (by omega)], rfl⟩)
  · obtain ⟨k, rfl⟩ : ∃ k : Nat, i = k := ⟨i.toNat, by omega⟩
    have hk : k < c.ms.length := by omega
    obtain ⟨m, hm⟩ : ∃ m, c.ms[k]? = some m := ⟨_, List.getElem?_eq_getElem hk⟩
    obtain ⟨mb, mo, hma, ra, rc⟩ := RwIn.rd (X := ⟨Tryz.prog, tab, tabOk, 25, Fr, w⟩) h hm
    subst hma
    (repeat (first|refine zS ?_|refine zR ?_|refine zB ?_|refine zL ?_|refine zC ?_|refine zG (zN ?_)|refine zG (zD 0 rfl rfl rfl rfl ?_)))
    refine VO.go (VO.light (light_idx k rfl rfl rfl rfl rfl rfl hk) ?_)
    (repeat (first|refine zS ?_|refine zR ?_|refine zB ?_|refine zL ?_|refine zC ?_|refine zG (zN ?_)|refine zG (zD 0 rfl rfl rfl rfl ?_)))
    refine VO.go (VO.load rfl rfl (rc _ _ 0 _ rfl rfl) ?_)
    (repeat (first|refine zS ?_|refine zR ?_|refine zB ?_|refine zL ?_|refine zC ?_|refine zG (zN ?_)|refine zG (zD 0 rfl rfl rfl rfl ?_)))
    exact VC.ret (Ret.tmp 4 rfl rfl Imp.nil.ent ⟨by rw [memAt, if_pos ⟨hc, by omega, by omega⟩, Int.toNat_natCast, hm]; rfl, rfl⟩)
def headOf (c : ChM) : Int := memAt c 0
def tailOf (c : ChM) : Int := memAt c (c.ms.length - 1)
def nextOf (c : ChM) (n : Int) : Int := if placeOf c.ms n < 0 then -1 else memAt c (placeOf c.ms n + 1)
def prevOf (c : ChM) (n : Int) : Int := memAt c (placeOf c.ms n - 1)
def sinceOf (c : ChM) (n : Int) : Int × Bool := if chOk c ∧ 0 ≤ placeOf c.ms n then (((c.ms[(placeOf c.ms n).toNat]?).getD (0, 0)).2, true) else (0, false)
theorem head_spec (Fr : Nat → Prop) (w : World) (h : RwIn memC 2 Fr w a c.ms) (hl : c.ms.length ≤ 9223372036854775807) : Tri Tryz.prog 160 [.agg (c.cells a cap).toArray] Fr w [] (fun v L => v = .int .i64 (headOf c) ∧ L = []) := by
  refine Tri.of 5 Tryz.func160 rfl (by kernel_rfl) tabOk rfl rfl ?_
  refine VC.seq (VC.region (VO.go (VO.boxA (vs := c.cells a cap) rfl fun b => ?_)))
  (repeat (first|refine zS ?_|refine zR ?_|refine zB ?_|refine zL ?_|refine zC ?_|refine zG (zN ?_)|refine zG (zD 0 rfl rfl rfl rfl ?_)))
  refine VO.go (VO.ldA 0 (c.cells a cap) rfl rfl rfl rfl ?_)
  refine VO.go (VO.callV' (fun Fr w hF hs hS => member_spec Fr w (h.of hF hs) hl 0) rfl ?_)
  (repeat (first|refine zS ?_|refine zR ?_|refine zB ?_|refine zL ?_|refine zC ?_|refine zG (zN ?_)|refine zG (zD 0 rfl rfl rfl rfl ?_)))
  exact VC.ret (Ret.tmp 2 rfl rfl Imp.nil.ent ⟨rfl, rfl⟩)
theorem tail_spec (Fr : Nat → Prop) (w : World) (h : RwIn memC 2 Fr w a c.ms) (hl : c.ms.length ≤ 9223372036854775807) : Tri Tryz.prog 193 [.agg (c.cells a cap).toArray] Fr w [] (fun v L => v = .int .i64 (tailOf c) ∧ L = []) := by
  refine Tri.of 9 Tryz.func193 rfl (by kernel_rfl) tabOk rfl rfl ?_
  refine VC.seq (VC.region (VO.go (VO.boxA (vs := c.cells a cap) rfl fun b => ?_)))
  (repeat (first|refine zS ?_|refine zR ?_|refine zB ?_|refine zL ?_|refine zC ?_|refine zG (zN ?_)|refine zG (zD 0 rfl rfl rfl rfl ?_)))
  refine VO.go (VO.ldA 0 (c.cells a cap) rfl rfl rfl rfl ?_)
  (repeat (first|refine zS ?_|refine zR ?_|refine zB ?_|refine zL ?_|refine zC ?_|refine zG (zN ?_)|refine zG (zD 0 rfl rfl rfl rfl ?_)))
  refine VO.go (VO.sub' rfl rfl (by omega) (by omega) ?_)
  refine VO.go (VO.callV' (fun Fr w hF hs hS => member_spec Fr w (h.of hF hs) hl (c.ms.length - 1)) rfl ?_)
  (repeat (first|refine zS ?_|refine zR ?_|refine zB ?_|refine zL ?_|refine zC ?_|refine zG (zN ?_)|refine zG (zD 0 rfl rfl rfl rfl ?_)))
  exact VC.ret (Ret.tmp 2 rfl rfl Imp.nil.ent ⟨rfl, rfl⟩)
theorem next_spec (Fr : Nat → Prop) (w : World) (h : RwIn memC 2 Fr w a c.ms) (hl : c.ms.length ≤ 1000000) (n : Int) : Tri Tryz.prog 147 [.agg (c.cells a cap).toArray, .int .i64 n] Fr w [] (fun v L => v = .int .i64 (nextOf c n) ∧ L = []) := by
  have hp := place_range c.ms n
  refine Tri.of 16 Tryz.func147 rfl (by kernel_rfl) tabOk rfl rfl ?_
  refine VC.seq (VC.region (VO.go (VO.boxA (vs := c.cells a cap) rfl fun b => ?_)))
  (repeat (first|refine zS ?_|refine zR ?_|refine zB ?_|refine zL ?_|refine zC ?_|refine zG (zN ?_)|refine zG (zD 0 rfl rfl rfl rfl ?_)))
  refine VO.go (VO.ldA 0 (c.cells a cap) rfl rfl rfl rfl ?_)
  refine VO.go (VO.call (Lc := []) (fun Fr w hF hw _ => places_spec (c := c) (a := a) (cap := cap) Fr w) rfl rfl ?_)
  rintro _ _ ⟨pb, rfl, rfl⟩
  (repeat (first|refine zS ?_|refine zR ?_|refine zB ?_|refine zL ?_|refine zC ?_|refine zG (zN ?_)|refine zG (zD 0 rfl rfl rfl rfl ?_)))
  refine VO.go (VO.callFV (u := .int .i64 (placeOf c.ms n)) rfl (fun Fr w hF hs hS => place1_spec Fr w (hS.blk 0 rfl) (h.of hF hs) (by omega) n) rfl ?_)
  (repeat (first|refine zS ?_|refine zR ?_|refine zB ?_|refine zL ?_|refine zC ?_|refine zG (zN ?_)|refine zG (zD 0 rfl rfl rfl rfl ?_)))
  refine VC.condP rfl (fun h1 => ?_) (fun h1 => VC.skip ?_)
  · (repeat (first|refine zS ?_|refine zR ?_|refine zB ?_|refine zL ?_|refine zC ?_|refine zG (zN ?_)|refine zG (zD 0 rfl rfl rfl rfl ?_)))
    exact VC.ret (Ret.tmp 4 rfl rfl Imp.nil.ent ⟨by rw [nextOf, if_pos h1], rfl⟩)
  · have hpl : placeOf c.ms n < 1000000 := by
      rcases hp with hp | ⟨i, m, h2, h3, _⟩ <;> omega
    (repeat (first|refine zS ?_|refine zR ?_|refine zB ?_|refine zL ?_|refine zC ?_|refine zG (zN ?_)|refine zG (zD 0 rfl rfl rfl rfl ?_)))
    refine VO.go (VO.ldA 1 (c.cells a cap) rfl rfl rfl rfl ?_)
    (repeat (first|refine zS ?_|refine zR ?_|refine zB ?_|refine zL ?_|refine zC ?_|refine zG (zN ?_)|refine zG (zD 0 rfl rfl rfl rfl ?_)))
    refine VO.go (VO.add rfl rfl (by omega) (by omega) ?_)
    refine VO.go (VO.callV' (fun Fr w hF hs hS => member_spec Fr w (h.of hF hs) (by omega) (placeOf c.ms n + 1)) rfl ?_)
    (repeat (first|refine zS ?_|refine zR ?_|refine zB ?_|refine zL ?_|refine zC ?_|refine zG (zN ?_)|refine zG (zD 0 rfl rfl rfl rfl ?_)))
    exact VC.ret (Ret.tmp 4 rfl rfl Imp.nil.ent ⟨by rw [nextOf, if_neg h1], rfl⟩)
set_option maxRecDepth 100000 in
theorem prev_spec (Fr : Nat → Prop) (w : World) (h : RwIn memC 2 Fr w a c.ms) (hl : c.ms.length ≤ 1000000) (n : Int) : Tri Tryz.prog 144 [.agg (c.cells a cap).toArray, .int .i64 n] Fr w [] (fun v L => v = .int .i64 (prevOf c n) ∧ L = []) := by
  have hp := place_range c.ms n
  have hpl : -1 ≤ placeOf c.ms n ∧ placeOf c.ms n < 1000000 := by
    rcases hp with hp | ⟨i, m, h2, h3, _⟩ <;> omega
  refine Tri.of 12 Tryz.func144 rfl (by kernel_rfl) tabOk rfl rfl ?_
  refine VC.seq (VC.region (VO.go (VO.boxA (vs := c.cells a cap) rfl fun b => VO.go ?_)))
  refine VO.go (VO.nil ?_)
  refine VC.seq (VC.draw (.take 0 (.take 1 (.take 3 (.only 2 (.only 4 (.take 5 (.only 6 (.take 7 .nil)))))))) (by kernel_rfl) (by decide +kernel) ?_)
  refine VA.go (VA.ldA 0 (c.cells a cap) rfl rfl rfl rfl rfl ?_)
  refine VA.go (VA.ldA 0 (c.cells a cap) rfl rfl rfl rfl rfl ?_)
  (repeat (first|refine yG (yN ?_)|refine yG (yD 0 rfl rfl rfl rfl rfl ?_)))
  refine VA.go (VA.opP (OpT.call (Lc := []) (R := fun v L => ∃ b, v = fnV 191 [] [.pointer (some ⟨b, 0, none⟩)] ∧ L = [pt b (c.cells a cap) chT]) rfl (.refl _) (fun Fr w hF hs hS => places_spec Fr w)) rfl ?_ ?_)
  · rintro _ _ ⟨_, ⟨pb, rfl, rfl⟩, rfl⟩
    exact (by (try refine Pd.st ?_);(repeat (first|exact Pd.nil|exact Pd.fnil|refine Pd.inner ?_|refine Pd.skip (by decide +kernel) ?_|refine zf (zo 0 rfl rfl) ?_|refine zf (zo 1 rfl rfl) ?_|refine zf (zm 0 rfl rfl) ?_|refine zf (zm 1 rfl rfl) ?_|refine zc (zo 0 rfl rfl) ?_|refine zc (zo 1 rfl rfl) ?_|refine zc (zm 0 rfl rfl) ?_|refine zc (zm 1 rfl rfl) ?_)))
  rintro _ _ ⟨_, ⟨pb, rfl, rfl⟩, rfl⟩
  refine VA.go (VA.callFV (u := .int .i64 (placeOf c.ms n)) rfl (fun Fr w hF hs hS => place1_spec Fr w (hS.blk 0 rfl) (h.of hF hs) (by omega) n) rfl rfl (by (try refine Pd.st ?_);(repeat (first|exact Pd.nil|exact Pd.fnil|refine Pd.inner ?_|refine Pd.skip (by decide +kernel) ?_|refine zf (zo 0 rfl rfl) ?_|refine zf (zo 1 rfl rfl) ?_|refine zf (zm 0 rfl rfl) ?_|refine zf (zm 1 rfl rfl) ?_|refine zc (zo 0 rfl rfl) ?_|refine zc (zo 1 rfl rfl) ?_|refine zc (zm 0 rfl rfl) ?_|refine zc (zm 1 rfl rfl) ?_))) ?_)
  refine VA.go (VA.sub' rfl rfl rfl (by omega) (by omega) ?_)
  refine VA.go (VA.callR (fun Fr w hF hs hS => member_spec Fr w (h.of hF hs) (by omega) (placeOf c.ms n - 1)) rfl rfl (by (try refine Pd.st ?_);(repeat (first|exact Pd.nil|exact Pd.fnil|refine Pd.inner ?_|refine Pd.skip (by decide +kernel) ?_|refine zf (zo 0 rfl rfl) ?_|refine zf (zo 1 rfl rfl) ?_|refine zf (zm 0 rfl rfl) ?_|refine zf (zm 1 rfl rfl) ?_|refine zc (zo 0 rfl rfl) ?_|refine zc (zo 1 rfl rfl) ?_|refine zc (zm 0 rfl rfl) ?_|refine zc (zm 1 rfl rfl) ?_))) ?_)
  (repeat (first|refine yG (yN ?_)|refine yG (yD 0 rfl rfl rfl rfl rfl ?_)))
  exact VC.ret (Ret.tmp 4 rfl rfl Imp.nil.ent ⟨rfl, rfl⟩)
set_option maxRecDepth 100000 in
theorem since_spec (Fr : Nat → Prop) (w : World) (h : RwIn memC 2 Fr w a c.ms) (hl : c.ms.length ≤ 1000000) (n : Int) : Tri Tryz.prog 54 [.agg (c.cells a cap).toArray, .int .i64 n] Fr w [] (fun v L => v = .tuple #[.int .i64 (sinceOf c n).1, .bool (sinceOf c n).2] ∧ L = []) := by
  have hp := place_range c.ms n
  refine Tri.of 24 Tryz.func54 rfl (by kernel_rfl) tabOk rfl rfl ?_
  refine VC.seq (VC.region (VO.go (VO.boxA (vs := c.cells a cap) rfl fun b => ?_)))
  (repeat (first|refine zS ?_|refine zR ?_|refine zB ?_|refine zL ?_|refine zC ?_|refine zG (zN ?_)|refine zG (zD 0 rfl rfl rfl rfl ?_)))
  refine VO.go (VO.ldA 0 (c.cells a cap) rfl rfl rfl rfl ?_)
  refine VO.go (VO.call (Lc := []) (fun Fr w hF hw _ => places_spec (c := c) (a := a) (cap := cap) Fr w) rfl rfl ?_)
  rintro _ _ ⟨pb, rfl, rfl⟩
  (repeat (first|refine zS ?_|refine zR ?_|refine zB ?_|refine zL ?_|refine zC ?_|refine zG (zN ?_)|refine zG (zD 0 rfl rfl rfl rfl ?_)))
  refine VO.go (VO.callFV (u := .int .i64 (placeOf c.ms n)) rfl (fun Fr w hF hs hS => place1_spec Fr w (hS.blk 0 rfl) (h.of hF hs) (by omega) n) rfl ?_)
  (repeat (first|refine zS ?_|refine zR ?_|refine zB ?_|refine zL ?_|refine zC ?_|refine zG (zN ?_)|refine zG (zD 0 rfl rfl rfl rfl ?_)))
  refine VO.go (VO.ldA 1 (c.cells a cap) rfl rfl rfl rfl ?_)
  refine VO.go (VO.callV' (fun Fr w hF hs hS => check_spec Fr w (h.of hF hs) (by omega)) rfl ?_)
  (repeat (first|refine zS ?_|refine zR ?_|refine zB ?_|refine zL ?_|refine zC ?_|refine zG (zN ?_)|refine zG (zD 0 rfl rfl rfl rfl ?_)))
  cases hc : chOk c with
  | false =>
    refine VO.go (VO.yes 14 true rfl (by rw [chE, hc]; rfl) ?_)
    (repeat (first|refine zS ?_|refine zR ?_|refine zB ?_|refine zL ?_|refine zC ?_|refine zG (zN ?_)|refine zG (zD 0 rfl rfl rfl rfl ?_)|refine zG (zU rfl rfl rfl ?_)))
    refine VC.condT rfl ?_
    (repeat (first|refine zS ?_|refine zR ?_|refine zB ?_|refine zL ?_|refine zC ?_|refine zG (zN ?_)|refine zG (zD 0 rfl rfl rfl rfl ?_)))
    exact VC.ret (Ret.tmp2 4 5 rfl rfl rfl Imp.nil.ent ⟨by rw [sinceOf, if_neg (by rw [hc]; simp)], rfl⟩)
  | true =>
  refine VO.go (VO.yes 14 false rfl (by rw [chE, hc]; rfl) ?_)
  (repeat (first|refine zS ?_|refine zR ?_|refine zB ?_|refine zL ?_|refine zC ?_|refine zG (zN ?_)|refine zG (zD 0 rfl rfl rfl rfl ?_)|refine zG (zU rfl rfl rfl ?_)))
  refine VC.condP rfl (fun h1 => ?_) (fun h1 => VC.skip ?_)
  · (repeat (first|refine zS ?_|refine zR ?_|refine zB ?_|refine zL ?_|refine zC ?_|refine zG (zN ?_)|refine zG (zD 0 rfl rfl rfl rfl ?_)))
    exact VC.ret (Ret.tmp2 4 5 rfl rfl rfl Imp.nil.ent ⟨by rw [sinceOf, if_neg (by omega)], rfl⟩)
  · rcases hp with hp | ⟨k, m, h2, h3, h4, h5⟩
    · omega
    obtain ⟨mb, mo, hma, ra, rc⟩ := RwIn.rd (X := ⟨Tryz.prog, tab, tabOk, 24, Fr, w⟩) h h4
    subst hma
    (repeat (first|refine zS ?_|refine zR ?_|refine zB ?_|refine zL ?_|refine zC ?_|refine zG (zN ?_)|refine zG (zD 0 rfl rfl rfl rfl ?_)|refine zG (zD 1 rfl rfl rfl rfl ?_)))
    refine VO.go (VO.light (light_idx k rfl rfl rfl rfl rfl h2 h3) ?_)
    (repeat (first|refine zS ?_|refine zR ?_|refine zB ?_|refine zL ?_|refine zC ?_|refine zG (zN ?_)|refine zG (zD 0 rfl rfl rfl rfl ?_)|refine zG (zD 1 rfl rfl rfl rfl ?_)))
    refine VO.go (VO.load rfl rfl (rc _ _ 1 _ rfl rfl) ?_)
    (repeat (first|refine zS ?_|refine zR ?_|refine zB ?_|refine zL ?_|refine zC ?_|refine zG (zN ?_)|refine zG (zD 0 rfl rfl rfl rfl ?_)))
    exact VC.ret (Ret.tmp2 4 5 rfl rfl rfl Imp.nil.ent ⟨by rw [sinceOf, if_pos ⟨hc, by omega⟩, h2, Int.toNat_natCast, h4]; rfl, rfl⟩)
end
end Go.Proofs.YtbbnmgakmcppdaaGreat.Ch
