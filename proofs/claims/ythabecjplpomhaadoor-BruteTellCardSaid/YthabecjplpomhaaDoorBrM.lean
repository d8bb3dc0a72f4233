/- BruteMore: calls that are linear stay so with more that are not done; an order has all that are done, each once. No condition but the table of powers of ten. -/
import Derived.Test.YthabecjplpomhaaDoorBrQ
namespace Go.Proofs.YthabecjplpomhaaDoor.Br
open Go Go.Proofs.YthabecjplpomhaaDoor.Vg Go.Proofs.YthabecjplpomhaaDoor.T Go.Proofs.YthabecjplpomhaaDoor.Api Go.Proofs.YthabecjplpomhaaDoor.Kv Go.Proofs.YthabecjplpomhaaDoor.LibC
set_option linter.unusedSimpArgs false
set_option linter.unusedVariables false
attribute [local irreducible] VO VC VA

theorem great_no {l : List RecM} {n : Int} (h : greatM l n = false) : (l.length : Int) ≤ n := by
  unfold greatM at h
  simp only [Bool.or_eq_false_iff, decide_eq_false_iff_not] at h
  omega
/-- How often each one was seen. -/
def seenL (n : Nat) (S : List Nat) : List Int := (List.range n).map fun k => if k ∈ S then 1 else 0
theorem seenL_len (n : Nat) (S : List Nat) : (seenL n S).length = n := by simp [seenL]
theorem seenL_at {n : Nat} {S : List Nat} {k : Nat} (h : k < n) : (seenL n S)[k]? = some (if k ∈ S then 1 else 0) := by
  simp [seenL, List.getElem?_map, h]
theorem seenL_snoc {n : Nat} {S : List Nat} {k : Nat} (h : k < n) : (seenL n S).set k 1 = seenL n (S ++ [k]) := by
  apply List.ext_getElem?
  intro i
  by_cases hi : i = k
  · subst hi
    rw [List.getElem?_set_self (by rw [seenL_len]; exact h), seenL_at h]; simp
  · rw [List.getElem?_set_ne (Ne.symm hi)]
    rcases Nat.lt_or_ge i n with hn | hn
    · rw [seenL_at hn, seenL_at hn]; simp [hi]
    · rw [List.getElem?_eq_none (by rw [seenL_len]; exact hn), List.getElem?_eq_none (by rw [seenL_len]; exact hn)]
theorem seenL_zero (n : Nat) : (List.replicate n [Value.int .i64 0]).flatten = (seenL n []).map (Value.int .i64) := by
  apply List.ext_getElem?
  intro i
  rw [show (List.replicate n [Value.int .i64 0]).flatten = List.replicate n (Value.int .i64 0) by induction n with | zero => rfl | succ n ih => rw [List.replicate_succ, List.flatten_cons, ih]; rfl]
  rcases Nat.lt_or_ge i n with hn | hn
  · rw [List.getElem?_map, seenL_at hn]; simp [hn]
  · rw [List.getElem?_eq_none (by simpa using hn), List.getElem?_eq_none (by simpa [seenL] using hn)]

def xRec : RecM := ⟨9, 1, ⟨3, ⟨#[122]⟩, nilB, 0⟩, 0, -1, 0, 0, resZ⟩
def yRec : RecM := ⟨9, 1, ⟨3, ⟨#[122]⟩, nilB, 0⟩, 0, 1, 2, 0, resZ⟩
def yRec0 : RecM := ⟨9, 1, ⟨3, ⟨#[122]⟩, nilB, 0⟩, 0, -1, 2, 0, resZ⟩

set_option maxRecDepth 100000 in
set_option maxHeartbeats 2000000 in
theorem more_spec (Fr : Nat → Prop) (w : World) {a : Option Addr} {cap : Nat} {l : List RecM} (h : RecsIn Fr w a l) (hl : l.length ≤ 9223372036854775807) (hT : TabF Fr w) :
    Tri Tryd.prog 4 [.slice a l.length cap] Fr w [] (fun v L => v = .bool true ∧ L = []) := by
  refine Tri.of 142 Tryd.func4 rfl (by kernel_rfl) tabOk rfl rfl ?_
  (repeat (first | refine VC.seq ?_ | refine VC.region ?_ | refine VC.block ?_ | refine VC.label ?_ | refine VC.scope ?_ | refine VO.go (VO.nil ?_) | refine VO.go (VO.ld 0 rfl rfl rfl rfl ?_)))
  refine VO.go (VO.callV' (fun Fr w hF hs _ => great_spec Fr w (h.of hF hs) hl 6 (by decide)) rfl ?_)
  (repeat (first | refine VC.seq ?_ | refine VC.region ?_ | refine VC.block ?_ | refine VC.label ?_ | refine VC.scope ?_ | refine VO.go (VO.nil ?_) | refine VO.go (VO.ld 0 rfl rfl rfl rfl ?_)))
  refine VC.cond rfl (fun _ => ?_) (fun hg => VC.skip ?_)
  · (repeat (first | refine VC.seq ?_ | refine VC.region ?_ | refine VC.block ?_ | refine VC.label ?_ | refine VC.scope ?_ | refine VO.go (VO.nil ?_) | refine VO.go (VO.ld 0 rfl rfl rfl rfl ?_)))
    refine VO.go (VO.callV' (fun Fr w hF hs _ => found_spec Fr w (TabF.st rfl hT hF hs)) rfl ?_)
    (repeat (first | refine VC.seq ?_ | refine VC.region ?_ | refine VC.block ?_ | refine VC.label ?_ | refine VC.scope ?_ | refine VO.go (VO.nil ?_) | refine VO.go (VO.ld 0 rfl rfl rfl rfl ?_)))
    exact VC.ret (Ret.tmp 2 rfl rfl Imp.nil.ent ⟨rfl, rfl⟩)
  have hl6 := great_no hg
  (repeat (first | refine VC.seq ?_ | refine VC.region ?_ | refine VC.block ?_ | refine VC.label ?_ | refine VC.scope ?_ | refine VO.go (VO.nil ?_) | refine VO.go (VO.ld 0 rfl rfl rfl rfl ?_)))
  refine VO.go (VO.call (Lc := []) (fun Fr w hF hs hS => order_spec Fr w (h.of hF hs) hl (TabF.st rfl hT hF hs)) rfl rfl ?_)
  rintro _ _ (⟨ho, rfl, rfl⟩ | ⟨o, a', cap', ho, rfl, hc', rfl⟩)
  · (repeat (first | refine VC.seq ?_ | refine VC.region ?_ | refine VC.block ?_ | refine VC.label ?_ | refine VC.scope ?_ | refine VO.go (VO.nil ?_) | refine VO.go (VO.ld 0 rfl rfl rfl rfl ?_)))
    refine VC.condT rfl ?_
    (repeat (first | refine VC.seq ?_ | refine VC.region ?_ | refine VC.block ?_ | refine VC.label ?_ | refine VC.scope ?_ | refine VO.go (VO.nil ?_) | refine VO.go (VO.ld 0 rfl rfl rfl rfl ?_)))
    refine VO.go (VO.yes 28 true rfl rfl ?_)
    refine VO.go (VO.callV' (fun Fr w hF hs _ => found_spec Fr w (TabF.st rfl hT hF hs)) rfl ?_)
    (repeat (first | refine VC.seq ?_ | refine VC.region ?_ | refine VC.block ?_ | refine VC.label ?_ | refine VC.scope ?_ | refine VO.go (VO.nil ?_) | refine VO.go (VO.ld 0 rfl rfl rfl rfl ?_)))
    exact VC.ret (Ret.tmp 2 rfl rfl Imp.nil.ent ⟨rfl, rfl⟩)
  have hom : orderM l = some o ∧ checkM l = 0 := by
    unfold ordOut at ho
    split at ho
    · exact ⟨ho, by assumption⟩
    · cases ho
  have hops : ∀ r ∈ l, opCheck r.op = 0 := by
    have h2 := hom.2
    unfold checkM at h2
    split at h2
    · omega
    split at h2
    · exact opsOk_all (by assumption)
    · omega
  obtain ⟨hon, hoi, hod, hos⟩ := solve_out .nil (fun i hi => by cases hi) hom.1
  have hol := nodup_len (M := List.range l.length) hon (fun x hx => List.mem_range.2 (hoi x hx))
  rw [List.length_range] at hol
  rw [show o.length = (o.map fun (i : Nat) => (i : Int)).length by simp, ordC_flat]
  refine VO.opn 0 rfl (HOpn.rl _ _ _ (o.map fun (i : Nat) => (i : Int)) (fun _ => rfl)) ?_
  rintro r ⟨hok, hv, hx⟩
  rw [← hv]
  have hrl : r.xs.length = o.length := by rw [hx]; simp
  (repeat (first | refine VC.seq ?_ | refine VC.region ?_ | refine VC.block ?_ | refine VC.label ?_ | refine VC.scope ?_ | refine VO.go (VO.nil ?_) | refine VO.go (VO.ld 0 rfl rfl rfl rfl ?_)))
  refine VC.condF rfl (VC.skip ?_)
  (repeat (first | refine VC.seq ?_ | refine VC.region ?_ | refine VC.block ?_ | refine VC.label ?_ | refine VC.scope ?_ | refine VO.go (VO.nil ?_) | refine VO.go (VO.ld 0 rfl rfl rfl rfl ?_)))
  refine VO.go (VO.makeSlice l.length rfl rfl rfl rfl rfl rfl rfl (by omega) (by show 8 * l.length ≤ _; omega) fun sb => ?_)
  rw [show (List.replicate l.length T.t3.zs).flatten = (seenL l.length []).map (Value.int .i64) from seenL_zero _]
  (repeat (first | refine VC.seq ?_ | refine VC.region ?_ | refine VC.block ?_ | refine VC.label ?_ | refine VC.scope ?_ | refine VO.go (VO.nil ?_) | refine VO.go (VO.ld 0 rfl rfl rfl rfl ?_)))
  refine VC.loop (σ := Nat) (fun i => [(0, .slice a l.length cap), (3, r.v), (5, .slice (some ⟨sb, 0, none⟩) l.length l.length), (6, .int .i64 i)]) (fun i => [pt sb ((seenL l.length (o.take i)).map (Value.int .i64)) 3, r.h 3]) (fun i => i ≤ o.length) (fun i => o.length - i) 0
    (Nat.zero_le _) (Sub.cons rfl (Sub.cons rfl (Sub.cons rfl (Sub.cons rfl (Sub.nil _))))) Ent.refl ?_
  intro i hi
  (repeat (first | refine VC.seq ?_ | refine VC.region ?_ | refine VC.block ?_ | refine VC.label ?_ | refine VC.scope ?_ | refine VO.go (VO.nil ?_) | refine VO.go (VO.ld 0 rfl rfl rfl rfl ?_)))
  refine VC.condP (p := (i : Int) < (r.xs.length : Int)) rfl (fun h1 => VC.skip ?_) (fun h1 => VC.exit ?_)
  · have hi2 : i < o.length := by omega
    obtain ⟨k, hk⟩ : ∃ k, o[i]? = some k := ⟨_, List.getElem?_eq_getElem hi2⟩
    have hkl := hoi k (List.mem_of_getElem? hk)
    have hxi : r.xs[i]? = some (k : Int) := by rw [hx, List.getElem?_map, hk]; rfl
    have hkn : k ∉ o.take i := fun hm => by
      obtain ⟨j, hj, e⟩ := List.getElem_of_mem hm
      rw [List.getElem_take] at e
      have hj2 : j < i := by rw [List.length_take] at hj; omega
      have e2 := (List.getElem?_eq_some_iff.1 hk).2
      exact List.pairwise_iff_getElem.1 hon j i (by omega) hi2 hj2 (e.trans e2.symm)
    obtain ⟨kb, ko, e1, e2, hrd⟩ := hok.ld hxi rfl
    have hrv : r.v = .slice (some ⟨kb, ko, none⟩) r.xs.length r.cap := by rw [RL.v, e2]
    rw [hrv]
    (repeat (first | refine VC.seq ?_ | refine VC.region ?_ | refine VC.block ?_ | refine VC.label ?_ | refine VC.scope ?_ | refine VO.go (VO.nil ?_) | refine VO.go (VO.ld 0 rfl rfl rfl rfl ?_)))
    refine VO.go (VO.light (light_idx i rfl rfl rfl rfl rfl rfl (by omega)) ?_)
    refine VO.go (VO.load rfl rfl ((hrd 1 rfl).2 _ 0 _ rfl rfl) ?_)
    (repeat (first | refine VC.seq ?_ | refine VC.region ?_ | refine VC.block ?_ | refine VC.label ?_ | refine VC.scope ?_ | refine VO.go (VO.nil ?_) | refine VO.go (VO.ld 0 rfl rfl rfl rfl ?_)))
    refine VO.go (VO.yes 46 false rfl (decide_eq_false (by omega)) ?_)
    (repeat (first | refine VC.seq ?_ | refine VC.region ?_ | refine VC.block ?_ | refine VC.label ?_ | refine VC.scope ?_ | refine VO.go (VO.nil ?_) | refine VO.go (VO.ld 0 rfl rfl rfl rfl ?_)))
    refine VC.cond (t := false) (congrArg (fun b => some (Value.bool b)) (decide_eq_false (by omega))) (fun h => by cases h) (fun _ => VC.skip ?_)
    (repeat (first | refine VC.seq ?_ | refine VC.region ?_ | refine VC.block ?_ | refine VC.label ?_ | refine VC.scope ?_ | refine VO.go (VO.nil ?_) | refine VO.go (VO.ld 0 rfl rfl rfl rfl ?_)))
    refine VO.go (VO.light (light_idx k rfl rfl rfl rfl rfl rfl hkl) ?_)
    have hld : ((seenL l.length (o.take i)).map (Value.int .i64))[0 + k * 1]? = some (.int .i64 0) := by rw [Nat.zero_add, Nat.mul_one, List.getElem?_map, seenL_at hkl, if_neg hkn]; rfl
    refine VO.go (VO.ld 0 (v := .int .i64 0) rfl rfl rfl hld ?_)
    refine VO.go (VO.add rfl rfl (by omega) (by omega) ?_)
    refine VO.go (VO.light (light_idx k rfl rfl rfl rfl rfl rfl hkl) ?_)
    refine VO.go (VO.st 0 (cs' := (seenL l.length (o.take (i + 1))).map (Value.int .i64)) rfl rfl rfl rfl (by show 0 + k * 1 < _; rw [List.length_map, seenL_len]; omega) ?_ rfl ?_)
    · show List.set _ (0 + k * 1) (Value.int .i64 1) = _
      rw [Nat.zero_add, Nat.mul_one, ← List.map_set, seenL_snoc hkl, List.take_add_one, hk]; rfl
    (repeat (first | refine VC.seq ?_ | refine VC.region ?_ | refine VC.block ?_ | refine VC.label ?_ | refine VC.scope ?_ | refine VO.go (VO.nil ?_) | refine VO.go (VO.ld 0 rfl rfl rfl rfl ?_)))
    refine VO.go (VO.add rfl rfl (by omega) (by omega) ?_)
    (repeat (first | refine VC.seq ?_ | refine VC.region ?_ | refine VC.block ?_ | refine VC.label ?_ | refine VC.scope ?_ | refine VO.go (VO.nil ?_) | refine VO.go (VO.ld 0 rfl rfl rfl rfl ?_)))
    exact ⟨i + 1, hi2, by dsimp only; omega, Sub.cons rfl (Sub.cons rfl (Sub.cons rfl (Sub.cons rfl (Sub.nil _)))), Ent.refl⟩
  obtain rfl : i = o.length := by omega
  rw [List.take_length]
  (repeat (first | refine VC.seq ?_ | refine VC.region ?_ | refine VC.block ?_ | refine VC.label ?_ | refine VC.scope ?_ | refine VO.go (VO.nil ?_) | refine VO.go (VO.ld 0 rfl rfl rfl rfl ?_)))
  refine VC.loop (σ := Nat) (fun i => [(0, .slice a l.length cap), (5, .slice (some ⟨sb, 0, none⟩) l.length l.length), (8, .int .i64 i)]) (fun i => [pt sb ((seenL l.length o).map (Value.int .i64)) 3]) (fun i => i ≤ l.length) (fun i => l.length - i) 0
    (Nat.zero_le _) (Sub.cons rfl (Sub.cons rfl (Sub.cons rfl (Sub.nil _)))) (Imp.pick 0 rfl Imp.nil).ent ?_
  intro i hi
  (repeat (first | refine VC.seq ?_ | refine VC.region ?_ | refine VC.block ?_ | refine VC.label ?_ | refine VC.scope ?_ | refine VO.go (VO.nil ?_) | refine VO.go (VO.ld 0 rfl rfl rfl rfl ?_)))
  refine VC.condP rfl (fun h1 => VC.skip ?_) (fun h1 => VC.exit ?_)
  · have hi2 : i < l.length := by omega
    obtain ⟨fb, fo, rfl, ra, rc⟩ := RwIn.rd (X := ⟨Tryd.prog, tab, tabOk, 142, Fr, w⟩) h (at_get hi2)
    have hld : ((seenL l.length o).map (Value.int .i64))[0 + i * 1]? = some (.int .i64 (if i ∈ o then 1 else 0)) := by rw [Nat.zero_add, Nat.mul_one, List.getElem?_map, seenL_at hi2]; rfl
    have hd := List.all_eq_true.1 hod i (List.mem_range.2 hi2)
    have hs : i ∈ o → (at_ l i).stand = true := fun hm => (hos i hm).resolve_left (by simp)
    have hck := hops _ (List.mem_of_getElem? (at_get hi2))
    generalize hv0 : (if i ∈ o then (1 : Int) else 0) = v at hld
    have f1 : (at_ l i).kind = 1 → v = 1 := fun hk => by
      have : i ∈ o := by simpa [RecM.done, hk] using hd
      rw [← hv0, if_pos this]
    have f2 : (at_ l i).kind = 2 → v = 0 := fun hk => by
      have : i ∉ o := fun hm => by have := hs hm; simp [RecM.stand, RecM.done, hk] at this
      rw [← hv0, if_neg this]
    have f3 : (at_ l i).kind ≠ 1 → (at_ l i).op.kind = 1 → v = 0 := fun hk ho => by
      have : i ∉ o := fun hm => by have := hs hm; simp [RecM.stand, RecM.done, hk, reads, ho, hck] at this
      rw [← hv0, if_neg this]
    have f4 : v ≤ 1 := by rw [← hv0]; split <;> omega
    refine VC.seq (VC.block (VC.seq (VC.region ?_)))
    (repeat (first | refine VC.seq ?_ | refine VC.region ?_ | refine VC.block ?_ | refine VC.label ?_ | refine VC.scope ?_ | refine VO.go (VO.nil ?_) | refine VO.go (VO.ld 0 rfl rfl rfl rfl ?_)))
    refine VO.go (VO.light (light_idx i rfl rfl rfl rfl rfl rfl hi2) ?_)
    (repeat (first | refine VC.seq ?_ | refine VC.region ?_ | refine VC.block ?_ | refine VC.label ?_ | refine VC.scope ?_ | refine VO.go (VO.nil ?_) | refine VO.go (VO.ld 0 rfl rfl rfl rfl ?_)))
    refine VO.go (VO.load rfl rfl (rc _ _ 8 _ rfl rfl) ?_)
    refine VO.go (VO.nil ?_)
    refine VC.meet (σ := Unit) (fun t => [(0, .slice (some ⟨fb, fo, none⟩) l.length cap), (5, .slice (some ⟨sb, 0, none⟩) l.length l.length), (8, .int .i64 i), (116, .bool false)]) (fun i => [pt sb ((seenL l.length o).map (Value.int .i64)) 3]) (fun _ => True) ?_ ?_
    · (repeat (first | refine VC.seq ?_ | refine VC.region ?_ | refine VC.block ?_ | refine VC.label ?_ | refine VC.scope ?_ | refine VO.go (VO.nil ?_) | refine VO.go (VO.ld 0 rfl rfl rfl rfl ?_)))
      refine VO.go (VO.light (light_idx i rfl rfl rfl rfl rfl rfl hi2) ?_)
      refine VO.go (VO.ld 0 (v := .int .i64 v) rfl rfl rfl hld ?_)
      (repeat (first | refine VC.seq ?_ | refine VC.region ?_ | refine VC.block ?_ | refine VC.label ?_ | refine VC.scope ?_ | refine VO.go (VO.nil ?_) | refine VO.go (VO.ld 0 rfl rfl rfl rfl ?_)))
      refine VO.go (VO.yes 75 false rfl (decide_eq_false (by omega)) ?_)
      by_cases k1 : (at_ l i).kind = 1
      · have hv1 := f1 k1
        (repeat (first | refine VC.seq ?_ | refine VC.region ?_ | refine VC.block ?_ | refine VC.label ?_ | refine VC.scope ?_ | refine VO.go (VO.nil ?_) | refine VO.go (VO.ld 0 rfl rfl rfl rfl ?_)))
        refine VO.go (VO.yes 78 true rfl (by rw [k1]; rfl) ?_)
        (repeat (first | refine VC.seq ?_ | refine VC.region ?_ | refine VC.block ?_ | refine VC.label ?_ | refine VC.scope ?_ | refine VO.go (VO.nil ?_) | refine VO.go (VO.ld 0 rfl rfl rfl rfl ?_)))
        refine VO.go (VO.light (light_idx i rfl rfl rfl rfl rfl rfl hi2) ?_)
        refine VO.go (VO.ld 0 (v := .int .i64 v) rfl rfl rfl hld ?_)
        (repeat (first | refine VC.seq ?_ | refine VC.region ?_ | refine VC.block ?_ | refine VC.label ?_ | refine VC.scope ?_ | refine VO.go (VO.nil ?_) | refine VO.go (VO.ld 0 rfl rfl rfl rfl ?_)))
        refine VO.go (VO.yes 86 false rfl (by rw [hv1]; rfl) ?_)
        (repeat (first | refine VC.seq ?_ | refine VC.region ?_ | refine VC.block ?_ | refine VC.label ?_ | refine VC.scope ?_ | refine VO.go (VO.nil ?_) | refine VO.go (VO.ld 0 rfl rfl rfl rfl ?_)))
        refine VO.go (VO.yes 89 false rfl (by rw [k1]; rfl) ?_)
        (repeat (first | refine VC.seq ?_ | refine VC.region ?_ | refine VC.block ?_ | refine VC.label ?_ | refine VC.scope ?_ | refine VO.go (VO.nil ?_) | refine VO.go (VO.ld 0 rfl rfl rfl rfl ?_) | refine VO.go (VO.offU rfl rfl rfl ?_)))
        refine VO.go (VO.yes 97 false rfl rfl ?_)
        (repeat (first | refine VC.seq ?_ | refine VC.region ?_ | refine VC.block ?_ | refine VC.label ?_ | refine VC.scope ?_ | refine VO.go (VO.nil ?_) | refine VO.go (VO.ld 0 rfl rfl rfl rfl ?_) | refine VO.go (VO.offU rfl rfl rfl ?_)))
        refine VO.go (VO.yes 100 false rfl (by rw [k1]; rfl) ?_)
        (repeat (first | refine VC.seq ?_ | refine VC.region ?_ | refine VC.block ?_ | refine VC.label ?_ | refine VC.scope ?_ | refine VO.go (VO.nil ?_) | refine VO.go (VO.ld 0 rfl rfl rfl rfl ?_) | refine VO.go (VO.offU rfl rfl rfl ?_)))
        refine VO.go (VO.yes 109 false rfl rfl ?_)
        (repeat (first | refine VC.seq ?_ | refine VC.region ?_ | refine VC.block ?_ | refine VC.label ?_ | refine VC.scope ?_ | refine VO.go (VO.nil ?_) | refine VO.go (VO.ld 0 rfl rfl rfl rfl ?_) | refine VO.go (VO.offU rfl rfl rfl ?_)))
        exact ⟨(), trivial, Sub.cons rfl (Sub.cons rfl (Sub.cons rfl (Sub.cons rfl (Sub.nil _)))), Ent.refl⟩
      · (repeat (first | refine VC.seq ?_ | refine VC.region ?_ | refine VC.block ?_ | refine VC.label ?_ | refine VC.scope ?_ | refine VO.go (VO.nil ?_) | refine VO.go (VO.ld 0 rfl rfl rfl rfl ?_)))
        refine VO.go (VO.yes 78 false rfl (beq_false_of_ne k1) ?_)
        (repeat (first | refine VC.seq ?_ | refine VC.region ?_ | refine VC.block ?_ | refine VC.label ?_ | refine VC.scope ?_ | refine VO.go (VO.nil ?_) | refine VO.go (VO.ld 0 rfl rfl rfl rfl ?_) | refine VO.go (VO.offU rfl rfl rfl ?_)))
        refine VO.go (VO.yes 86 false rfl rfl ?_)
        (repeat (first | refine VC.seq ?_ | refine VC.region ?_ | refine VC.block ?_ | refine VC.label ?_ | refine VC.scope ?_ | refine VO.go (VO.nil ?_) | refine VO.go (VO.ld 0 rfl rfl rfl rfl ?_) | refine VO.go (VO.offU rfl rfl rfl ?_)))
        by_cases k2 : (at_ l i).kind = 2
        · have hv2 := f2 k2
          refine VO.go (VO.yes 89 true rfl (by rw [k2]; rfl) ?_)
          (repeat (first | refine VC.seq ?_ | refine VC.region ?_ | refine VC.block ?_ | refine VC.label ?_ | refine VC.scope ?_ | refine VO.go (VO.nil ?_) | refine VO.go (VO.ld 0 rfl rfl rfl rfl ?_) | refine VO.go (VO.offU rfl rfl rfl ?_)))
          refine VO.go (VO.light (light_idx i rfl rfl rfl rfl rfl rfl hi2) ?_)
          refine VO.go (VO.ld 0 (v := .int .i64 v) rfl rfl rfl hld ?_)
          (repeat (first | refine VC.seq ?_ | refine VC.region ?_ | refine VC.block ?_ | refine VC.label ?_ | refine VC.scope ?_ | refine VO.go (VO.nil ?_) | refine VO.go (VO.ld 0 rfl rfl rfl rfl ?_) | refine VO.go (VO.offU rfl rfl rfl ?_)))
          refine VO.go (VO.yes 97 false rfl (by rw [hv2]; rfl) ?_)
          (repeat (first | refine VC.seq ?_ | refine VC.region ?_ | refine VC.block ?_ | refine VC.label ?_ | refine VC.scope ?_ | refine VO.go (VO.nil ?_) | refine VO.go (VO.ld 0 rfl rfl rfl rfl ?_) | refine VO.go (VO.offU rfl rfl rfl ?_)))
          refine VO.go (VO.yes 100 true rfl (by rw [k2]; rfl) ?_)
          (repeat (first | refine VC.seq ?_ | refine VC.region ?_ | refine VC.block ?_ | refine VC.label ?_ | refine VC.scope ?_ | refine VO.go (VO.nil ?_) | refine VO.go (VO.ld 0 rfl rfl rfl rfl ?_) | refine VO.go (VO.offU rfl rfl rfl ?_)))
          refine VO.go (VO.light (light_idx i rfl rfl rfl rfl rfl rfl hi2) ?_)
          (repeat (first | refine VC.seq ?_ | refine VC.region ?_ | refine VC.block ?_ | refine VC.label ?_ | refine VC.scope ?_ | refine VO.go (VO.nil ?_) | refine VO.go (VO.ld 0 rfl rfl rfl rfl ?_) | refine VO.go (VO.offU rfl rfl rfl ?_)))
          refine VO.go (VO.load rfl rfl (rc _ _ 2 _ rfl rfl) ?_)
          (repeat (first | refine VC.seq ?_ | refine VC.region ?_ | refine VC.block ?_ | refine VC.label ?_ | refine VC.scope ?_ | refine VO.go (VO.nil ?_) | refine VO.go (VO.ld 0 rfl rfl rfl rfl ?_) | refine VO.go (VO.offU rfl rfl rfl ?_)))
          refine VO.go (VO.split 109 rfl rfl (fun h3 => ?_) (fun h3 => ?_))
          · (repeat (first | refine VC.seq ?_ | refine VC.region ?_ | refine VC.block ?_ | refine VC.label ?_ | refine VC.scope ?_ | refine VO.go (VO.nil ?_) | refine VO.go (VO.ld 0 rfl rfl rfl rfl ?_) | refine VO.go (VO.offU rfl rfl rfl ?_)))
            refine VO.go (VO.light (light_idx i rfl rfl rfl rfl rfl rfl hi2) ?_)
            refine VO.go (VO.ld 0 (v := .int .i64 v) rfl rfl rfl hld ?_)
            (repeat (first | refine VC.seq ?_ | refine VC.region ?_ | refine VC.block ?_ | refine VC.label ?_ | refine VC.scope ?_ | refine VO.go (VO.nil ?_) | refine VO.go (VO.ld 0 rfl rfl rfl rfl ?_) | refine VO.go (VO.offU rfl rfl rfl ?_)))
            exact ⟨(), trivial, Sub.cons rfl (Sub.cons rfl (Sub.cons rfl (Sub.cons (by rw [hv2]; rfl) (Sub.nil _)))), Ent.refl⟩
          · (repeat (first | refine VC.seq ?_ | refine VC.region ?_ | refine VC.block ?_ | refine VC.label ?_ | refine VC.scope ?_ | refine VO.go (VO.nil ?_) | refine VO.go (VO.ld 0 rfl rfl rfl rfl ?_) | refine VO.go (VO.offU rfl rfl rfl ?_)))
            exact ⟨(), trivial, Sub.cons rfl (Sub.cons rfl (Sub.cons rfl (Sub.cons rfl (Sub.nil _)))), Ent.refl⟩
        · refine VO.go (VO.yes 89 false rfl (beq_false_of_ne k2) ?_)
          (repeat (first | refine VC.seq ?_ | refine VC.region ?_ | refine VC.block ?_ | refine VC.label ?_ | refine VC.scope ?_ | refine VO.go (VO.nil ?_) | refine VO.go (VO.ld 0 rfl rfl rfl rfl ?_) | refine VO.go (VO.offU rfl rfl rfl ?_)))
          refine VO.go (VO.yes 97 false rfl rfl ?_)
          (repeat (first | refine VC.seq ?_ | refine VC.region ?_ | refine VC.block ?_ | refine VC.label ?_ | refine VC.scope ?_ | refine VO.go (VO.nil ?_) | refine VO.go (VO.ld 0 rfl rfl rfl rfl ?_) | refine VO.go (VO.offU rfl rfl rfl ?_)))
          refine VO.go (VO.yes 100 true rfl (by simp [k1]) ?_)
          (repeat (first | refine VC.seq ?_ | refine VC.region ?_ | refine VC.block ?_ | refine VC.label ?_ | refine VC.scope ?_ | refine VO.go (VO.nil ?_) | refine VO.go (VO.ld 0 rfl rfl rfl rfl ?_) | refine VO.go (VO.offU rfl rfl rfl ?_)))
          refine VO.go (VO.light (light_idx i rfl rfl rfl rfl rfl rfl hi2) ?_)
          (repeat (first | refine VC.seq ?_ | refine VC.region ?_ | refine VC.block ?_ | refine VC.label ?_ | refine VC.scope ?_ | refine VO.go (VO.nil ?_) | refine VO.go (VO.ld 0 rfl rfl rfl rfl ?_) | refine VO.go (VO.offU rfl rfl rfl ?_)))
          refine VO.go (VO.load rfl rfl (rc _ _ 2 _ rfl rfl) ?_)
          (repeat (first | refine VC.seq ?_ | refine VC.region ?_ | refine VC.block ?_ | refine VC.label ?_ | refine VC.scope ?_ | refine VO.go (VO.nil ?_) | refine VO.go (VO.ld 0 rfl rfl rfl rfl ?_) | refine VO.go (VO.offU rfl rfl rfl ?_)))
          refine VO.go (VO.split 109 rfl rfl (fun h3 => ?_) (fun h3 => ?_))
          · have hv3 := f3 k1 (eq_of_beq h3)
            (repeat (first | refine VC.seq ?_ | refine VC.region ?_ | refine VC.block ?_ | refine VC.label ?_ | refine VC.scope ?_ | refine VO.go (VO.nil ?_) | refine VO.go (VO.ld 0 rfl rfl rfl rfl ?_) | refine VO.go (VO.offU rfl rfl rfl ?_)))
            refine VO.go (VO.light (light_idx i rfl rfl rfl rfl rfl rfl hi2) ?_)
            refine VO.go (VO.ld 0 (v := .int .i64 v) rfl rfl rfl hld ?_)
            (repeat (first | refine VC.seq ?_ | refine VC.region ?_ | refine VC.block ?_ | refine VC.label ?_ | refine VC.scope ?_ | refine VO.go (VO.nil ?_) | refine VO.go (VO.ld 0 rfl rfl rfl rfl ?_) | refine VO.go (VO.offU rfl rfl rfl ?_)))
            exact ⟨(), trivial, Sub.cons rfl (Sub.cons rfl (Sub.cons rfl (Sub.cons (by rw [hv3]; rfl) (Sub.nil _)))), Ent.refl⟩
          · (repeat (first | refine VC.seq ?_ | refine VC.region ?_ | refine VC.block ?_ | refine VC.label ?_ | refine VC.scope ?_ | refine VO.go (VO.nil ?_) | refine VO.go (VO.ld 0 rfl rfl rfl rfl ?_) | refine VO.go (VO.offU rfl rfl rfl ?_)))
            exact ⟨(), trivial, Sub.cons rfl (Sub.cons rfl (Sub.cons rfl (Sub.cons rfl (Sub.nil _)))), Ent.refl⟩
    intro _ _
    refine VC.condF rfl (VC.skip ?_)
    (repeat (first | refine VC.seq ?_ | refine VC.region ?_ | refine VC.block ?_ | refine VC.label ?_ | refine VC.scope ?_ | refine VO.go (VO.nil ?_) | refine VO.go (VO.ld 0 rfl rfl rfl rfl ?_)))
    refine VO.go (VO.add rfl rfl (by omega) (by omega) ?_)
    (repeat (first | refine VC.seq ?_ | refine VC.region ?_ | refine VC.block ?_ | refine VC.label ?_ | refine VC.scope ?_ | refine VO.go (VO.nil ?_) | refine VO.go (VO.ld 0 rfl rfl rfl rfl ?_)))
    exact ⟨i + 1, hi2, by dsimp only; omega, Sub.cons rfl (Sub.cons rfl (Sub.cons rfl (Sub.nil _))), Ent.refl⟩
  (repeat (first | refine VC.seq ?_ | refine VC.region ?_ | refine VC.block ?_ | refine VC.label ?_ | refine VC.scope ?_ | refine VO.go (VO.nil ?_) | refine VO.go (VO.ld 0 rfl rfl rfl rfl ?_)))
  refine VO.go (VO.light (light_build (pv := [(0, .int .i64 3), (1, .string ⟨#[122]⟩)]) xRec.op.cells rfl rfl rfl (by kernel_rfl) rfl) ?_)
  refine VO.go (VO.light (light_build (pv := [(0, .int .i64 9), (1, .int .i64 1), (2, .agg xRec.op.cells.toArray), (3, .int .i64 0), (4, .int .i64 (-1))]) (recC xRec) rfl rfl rfl (by kernel_rfl) rfl) ?_)
  refine VO.go (VO.alloc rfl fun b1 => ?_)
  refine VO.go (VO.stA (vs := recC xRec) 0 rfl rfl rfl rfl (Nat.le_refl _) rfl rfl rfl ?_)
  (repeat (first | refine VC.seq ?_ | refine VC.region ?_ | refine VC.block ?_ | refine VC.label ?_ | refine VC.scope ?_ | refine VO.go (VO.nil ?_) | refine VO.go (VO.ld 0 rfl rfl rfl rfl ?_)))
  refine VO.go (VO.ldA 0 (recC xRec) rfl rfl rfl rfl ?_)
  refine VO.go (VO.alloc rfl fun b2 => ?_)
  refine VO.go (VO.stA (vs := recC xRec) 0 rfl rfl rfl rfl (Nat.le_refl _) rfl rfl rfl ?_)
  (repeat (first | refine VC.seq ?_ | refine VC.region ?_ | refine VC.block ?_ | refine VC.label ?_ | refine VC.scope ?_ | refine VO.go (VO.nil ?_) | refine VO.go (VO.ld 0 rfl rfl rfl rfl ?_)))
  refine VO.go (VO.st 0 (cs' := recC yRec0) rfl rfl rfl rfl (by decide) rfl rfl ?_)
  (repeat (first | refine VC.seq ?_ | refine VC.region ?_ | refine VC.block ?_ | refine VC.label ?_ | refine VC.scope ?_ | refine VO.go (VO.nil ?_) | refine VO.go (VO.ld 0 rfl rfl rfl rfl ?_)))
  refine VO.go (VO.st 0 (cs' := recC yRec) rfl rfl rfl rfl (by decide) rfl rfl ?_)
  (repeat (first | refine VC.seq ?_ | refine VC.region ?_ | refine VC.block ?_ | refine VC.label ?_ | refine VC.scope ?_ | refine VO.go (VO.nil ?_) | refine VO.go (VO.ld 0 rfl rfl rfl rfl ?_)))
  have hm2 : ∀ r ∈ [xRec, yRec], r.done = false := by decide
  have hm3 : ∀ r ∈ [xRec, yRec], opCheck r.op = 0 := by decide
  obtain ⟨hlin, hchk⟩ := lin_more hm2 hm3 (by show l.length + 2 ≤ 8; omega) ho
  refine VC.meetS (σ := Option Addr × Nat) (fun x => [(12, .slice x.1 (l ++ [xRec, yRec]).length x.2)]) (fun x => [slH 34 14 x.1 (l ++ [xRec, yRec]).length x.2 (flat recC (l ++ [xRec, yRec]))]) (fun _ => True) ?_ ?_
  · have e1 : ∀ {a2 : Option Addr} {c2 : Nat}, slH 34 14 a2 (0 + l.length + 2) c2 ([] ++ flat recC l ++ flat recC [xRec, yRec]) = slH 34 14 a2 (l ++ [xRec, yRec]).length c2 (flat recC (l ++ [xRec, yRec])) := fun {a2 c2} => by simp [flat_append]
    have e2 : ∀ {a2 : Option Addr} {c2 : Nat}, Value.slice a2 (0 + l.length + 2) c2 = Value.slice a2 (l ++ [xRec, yRec]).length c2 := fun {a2 c2} => by simp
    refine VC.draw (ts 0 1 (.take 2 (.take 3 (.two 1 4 (.only 4 (.only 5 (.take 6 .nil))) (.only 1 (.only 5 (.take 6 .nil))))))) (by kernel_rfl) (by decide +kernel) ?_
    (repeat (first | refine VA.go (VA.nil ?_) | refine VA.go (VA.ld 0 rfl rfl rfl rfl rfl ?_)))
    refine VA.go (VA.ldA 1 (recC xRec) rfl rfl rfl rfl rfl ?_)
    refine VA.go (VA.ldA 0 (recC yRec) rfl rfl rfl rfl rfl ?_)
    refine VA.ent (L' := slH 34 14 none 0 0 [] :: pt b2 (recC yRec) 34 :: pt b1 (recC xRec) 34 :: []) (Imp.slNil (Imp.pick 0 rfl (Imp.pick 0 rfl Imp.nil))).ent ?_
    refine VA.go (VA.two rfl rfl rfl rfl rfl (OpT.append (m := l.length) (news := flat recC l) 0 rfl rfl rfl rfl rfl rfl rfl (RwIn.row recC_len h) (flat_all recC_one _) (by show (0 + l.length) * 136 ≤ _; omega) (by omega))
      rfl rfl rfl (OpT.buildSlice (n := 2) (pv := [(0, .agg (recC xRec).toArray), (1, .agg (recC yRec).toArray)]) (cells := flat recC [xRec, yRec]) rfl rfl rfl rfl (by decide) (by kernel_rfl)) ?_ ?_ ?_ ?_)
    · rintro v L' ⟨a1, c1, rfl, hc1, rfl⟩
      exact (by (try refine Pd.st ?_); (repeat (first | exact Pd.nil | exact Pd.fnil | refine Pd.inner ?_ | refine Pd.skip (by decide +kernel) ?_ | refine Pd.fcons (RdL.one 0 rfl rfl) ?_ | refine Pd.fcons (RdL.one 1 rfl rfl) ?_ | refine Pd.fcons (RdL.one 2 rfl rfl) ?_ | refine Pd.fcons (RdL.one 3 rfl rfl) ?_ | refine Pd.fcons (RdL.many 0 rfl rfl) ?_ | refine Pd.fcons (RdL.many 1 rfl rfl) ?_ | refine Pd.fcons (RdL.many 2 rfl rfl) ?_ | refine Pd.fcons (RdL.many 3 rfl rfl) ?_ | refine Pd.cons (RdL.one 0 rfl rfl) ?_ | refine Pd.cons (RdL.one 1 rfl rfl) ?_ | refine Pd.cons (RdL.one 2 rfl rfl) ?_ | refine Pd.cons (RdL.one 3 rfl rfl) ?_ | refine Pd.cons (RdL.many 0 rfl rfl) ?_ | refine Pd.cons (RdL.many 1 rfl rfl) ?_ | refine Pd.cons (RdL.many 2 rfl rfl) ?_ | refine Pd.cons (RdL.many 3 rfl rfl) ?_ | refine Pd.fconsM (MpL.one 0 rfl) ?_ | refine Pd.fconsM (MpL.one 1 rfl) ?_ | refine Pd.fconsM (MpL.one 2 rfl) ?_ | refine Pd.fconsM (MpL.one 3 rfl) ?_ | refine Pd.consM (MpL.one 0 rfl) ?_ | refine Pd.consM (MpL.one 1 rfl) ?_ | refine Pd.consM (MpL.one 2 rfl) ?_ | refine Pd.consM (MpL.one 3 rfl) ?_)))
    · rintro v L' ⟨nb, rfl, rfl⟩
      exact (by (try refine Pd.st ?_); (repeat (first | exact Pd.nil | exact Pd.fnil | refine Pd.inner ?_ | refine Pd.skip (by decide +kernel) ?_ | refine Pd.fcons (RdL.one 0 rfl rfl) ?_ | refine Pd.fcons (RdL.one 1 rfl rfl) ?_ | refine Pd.fcons (RdL.one 2 rfl rfl) ?_ | refine Pd.fcons (RdL.one 3 rfl rfl) ?_ | refine Pd.fcons (RdL.one 4 rfl rfl) ?_ | refine Pd.fcons (RdL.many 0 rfl rfl) ?_ | refine Pd.fcons (RdL.many 1 rfl rfl) ?_ | refine Pd.fcons (RdL.many 2 rfl rfl) ?_ | refine Pd.fcons (RdL.many 3 rfl rfl) ?_ | refine Pd.fcons (RdL.many 4 rfl rfl) ?_ | refine Pd.cons (RdL.one 0 rfl rfl) ?_ | refine Pd.cons (RdL.one 1 rfl rfl) ?_ | refine Pd.cons (RdL.one 2 rfl rfl) ?_ | refine Pd.cons (RdL.one 3 rfl rfl) ?_ | refine Pd.cons (RdL.one 4 rfl rfl) ?_ | refine Pd.cons (RdL.many 0 rfl rfl) ?_ | refine Pd.cons (RdL.many 1 rfl rfl) ?_ | refine Pd.cons (RdL.many 2 rfl rfl) ?_ | refine Pd.cons (RdL.many 3 rfl rfl) ?_ | refine Pd.cons (RdL.many 4 rfl rfl) ?_ | refine Pd.fconsM (MpL.one 0 rfl) ?_ | refine Pd.fconsM (MpL.one 1 rfl) ?_ | refine Pd.fconsM (MpL.one 2 rfl) ?_ | refine Pd.fconsM (MpL.one 3 rfl) ?_ | refine Pd.fconsM (MpL.one 4 rfl) ?_ | refine Pd.consM (MpL.one 0 rfl) ?_ | refine Pd.consM (MpL.one 1 rfl) ?_ | refine Pd.consM (MpL.one 2 rfl) ?_ | refine Pd.consM (MpL.one 3 rfl) ?_ | refine Pd.consM (MpL.one 4 rfl) ?_)))
    · rintro v L' ⟨a1, c1, rfl, hc1, rfl⟩
      refine VA.go (VA.opP (OpT.buildSlice (n := 2) (pv := [(0, .agg (recC xRec).toArray), (1, .agg (recC yRec).toArray)]) (cells := flat recC [xRec, yRec]) rfl rfl rfl rfl (by decide) (by kernel_rfl)) rfl ?_ ?_)
      · rintro v L' ⟨nb, rfl, rfl⟩
        exact (by (try refine Pd.st ?_); (repeat (first | exact Pd.nil | exact Pd.fnil | refine Pd.inner ?_ | refine Pd.skip (by decide +kernel) ?_ | refine Pd.fcons (RdL.one 0 rfl rfl) ?_ | refine Pd.fcons (RdL.one 1 rfl rfl) ?_ | refine Pd.fcons (RdL.one 2 rfl rfl) ?_ | refine Pd.fcons (RdL.one 3 rfl rfl) ?_ | refine Pd.fcons (RdL.one 4 rfl rfl) ?_ | refine Pd.fcons (RdL.many 0 rfl rfl) ?_ | refine Pd.fcons (RdL.many 1 rfl rfl) ?_ | refine Pd.fcons (RdL.many 2 rfl rfl) ?_ | refine Pd.fcons (RdL.many 3 rfl rfl) ?_ | refine Pd.fcons (RdL.many 4 rfl rfl) ?_ | refine Pd.cons (RdL.one 0 rfl rfl) ?_ | refine Pd.cons (RdL.one 1 rfl rfl) ?_ | refine Pd.cons (RdL.one 2 rfl rfl) ?_ | refine Pd.cons (RdL.one 3 rfl rfl) ?_ | refine Pd.cons (RdL.one 4 rfl rfl) ?_ | refine Pd.cons (RdL.many 0 rfl rfl) ?_ | refine Pd.cons (RdL.many 1 rfl rfl) ?_ | refine Pd.cons (RdL.many 2 rfl rfl) ?_ | refine Pd.cons (RdL.many 3 rfl rfl) ?_ | refine Pd.cons (RdL.many 4 rfl rfl) ?_ | refine Pd.fconsM (MpL.one 0 rfl) ?_ | refine Pd.fconsM (MpL.one 1 rfl) ?_ | refine Pd.fconsM (MpL.one 2 rfl) ?_ | refine Pd.fconsM (MpL.one 3 rfl) ?_ | refine Pd.fconsM (MpL.one 4 rfl) ?_ | refine Pd.consM (MpL.one 0 rfl) ?_ | refine Pd.consM (MpL.one 1 rfl) ?_ | refine Pd.consM (MpL.one 2 rfl) ?_ | refine Pd.consM (MpL.one 3 rfl) ?_ | refine Pd.consM (MpL.one 4 rfl) ?_)))
      rintro v L' ⟨nb, rfl, rfl⟩
      refine VA.go (VA.opP (OpT.append (m := 2) (news := flat recC [xRec, yRec]) 1 rfl rfl rfl rfl rfl rfl rfl (RdRow.pt 0 rfl rfl rfl) rfl (by show (0 + l.length + 2) * 136 ≤ _; omega) (by omega)) rfl ?_ ?_)
      · rintro v L' ⟨a2, c2, rfl, hc2, rfl⟩
        exact (by (try refine Pd.st ?_); (repeat (first | exact Pd.nil | exact Pd.fnil | refine Pd.inner ?_ | refine Pd.skip (by decide +kernel) ?_ | refine Pd.fcons (RdL.one 0 rfl rfl) ?_ | refine Pd.fcons (RdL.one 1 rfl rfl) ?_ | refine Pd.fcons (RdL.one 2 rfl rfl) ?_ | refine Pd.fcons (RdL.one 3 rfl rfl) ?_ | refine Pd.fcons (RdL.one 4 rfl rfl) ?_ | refine Pd.fcons (RdL.many 0 rfl rfl) ?_ | refine Pd.fcons (RdL.many 1 rfl rfl) ?_ | refine Pd.fcons (RdL.many 2 rfl rfl) ?_ | refine Pd.fcons (RdL.many 3 rfl rfl) ?_ | refine Pd.fcons (RdL.many 4 rfl rfl) ?_ | refine Pd.cons (RdL.one 0 rfl rfl) ?_ | refine Pd.cons (RdL.one 1 rfl rfl) ?_ | refine Pd.cons (RdL.one 2 rfl rfl) ?_ | refine Pd.cons (RdL.one 3 rfl rfl) ?_ | refine Pd.cons (RdL.one 4 rfl rfl) ?_ | refine Pd.cons (RdL.many 0 rfl rfl) ?_ | refine Pd.cons (RdL.many 1 rfl rfl) ?_ | refine Pd.cons (RdL.many 2 rfl rfl) ?_ | refine Pd.cons (RdL.many 3 rfl rfl) ?_ | refine Pd.cons (RdL.many 4 rfl rfl) ?_ | refine Pd.fconsM (MpL.one 0 rfl) ?_ | refine Pd.fconsM (MpL.one 1 rfl) ?_ | refine Pd.fconsM (MpL.one 2 rfl) ?_ | refine Pd.fconsM (MpL.one 3 rfl) ?_ | refine Pd.fconsM (MpL.one 4 rfl) ?_ | refine Pd.consM (MpL.one 0 rfl) ?_ | refine Pd.consM (MpL.one 1 rfl) ?_ | refine Pd.consM (MpL.one 2 rfl) ?_ | refine Pd.consM (MpL.one 3 rfl) ?_ | refine Pd.consM (MpL.one 4 rfl) ?_)))
      rintro v L' ⟨a2, c2, rfl, hc2, rfl⟩
      (repeat (first | refine VA.go (VA.nil ?_) | refine VA.go (VA.ld 0 rfl rfl rfl rfl rfl ?_)))
      exact ⟨(a2, c2), trivial, Sub.cons (by show some (Value.slice a2 (0 + l.length + 2) c2) = _; rw [e2]) (Sub.nil _), (Imp.pick 0 (congrArg some e1) Imp.nil).ent⟩
    · rintro v L' ⟨nb, rfl, rfl⟩
      refine VA.go (VA.opP (OpT.append (m := l.length) (news := flat recC l) 1 rfl rfl rfl rfl rfl rfl rfl (RwIn.row recC_len h) (flat_all recC_one _) (by show (0 + l.length) * 136 ≤ _; omega) (by omega)) rfl ?_ ?_)
      · rintro v L' ⟨a1, c1, rfl, hc1, rfl⟩
        exact (by (try refine Pd.st ?_); (repeat (first | exact Pd.nil | exact Pd.fnil | refine Pd.inner ?_ | refine Pd.skip (by decide +kernel) ?_ | refine Pd.fcons (RdL.one 0 rfl rfl) ?_ | refine Pd.fcons (RdL.one 1 rfl rfl) ?_ | refine Pd.fcons (RdL.one 2 rfl rfl) ?_ | refine Pd.fcons (RdL.one 3 rfl rfl) ?_ | refine Pd.fcons (RdL.one 4 rfl rfl) ?_ | refine Pd.fcons (RdL.many 0 rfl rfl) ?_ | refine Pd.fcons (RdL.many 1 rfl rfl) ?_ | refine Pd.fcons (RdL.many 2 rfl rfl) ?_ | refine Pd.fcons (RdL.many 3 rfl rfl) ?_ | refine Pd.fcons (RdL.many 4 rfl rfl) ?_ | refine Pd.cons (RdL.one 0 rfl rfl) ?_ | refine Pd.cons (RdL.one 1 rfl rfl) ?_ | refine Pd.cons (RdL.one 2 rfl rfl) ?_ | refine Pd.cons (RdL.one 3 rfl rfl) ?_ | refine Pd.cons (RdL.one 4 rfl rfl) ?_ | refine Pd.cons (RdL.many 0 rfl rfl) ?_ | refine Pd.cons (RdL.many 1 rfl rfl) ?_ | refine Pd.cons (RdL.many 2 rfl rfl) ?_ | refine Pd.cons (RdL.many 3 rfl rfl) ?_ | refine Pd.cons (RdL.many 4 rfl rfl) ?_ | refine Pd.fconsM (MpL.one 0 rfl) ?_ | refine Pd.fconsM (MpL.one 1 rfl) ?_ | refine Pd.fconsM (MpL.one 2 rfl) ?_ | refine Pd.fconsM (MpL.one 3 rfl) ?_ | refine Pd.fconsM (MpL.one 4 rfl) ?_ | refine Pd.consM (MpL.one 0 rfl) ?_ | refine Pd.consM (MpL.one 1 rfl) ?_ | refine Pd.consM (MpL.one 2 rfl) ?_ | refine Pd.consM (MpL.one 3 rfl) ?_ | refine Pd.consM (MpL.one 4 rfl) ?_)))
      rintro v L' ⟨a1, c1, rfl, hc1, rfl⟩
      refine VA.go (VA.opP (OpT.append (m := 2) (news := flat recC [xRec, yRec]) 0 rfl rfl rfl rfl rfl rfl rfl (RdRow.pt 1 rfl rfl rfl) rfl (by show (0 + l.length + 2) * 136 ≤ _; omega) (by omega)) rfl ?_ ?_)
      · rintro v L' ⟨a2, c2, rfl, hc2, rfl⟩
        exact (by (try refine Pd.st ?_); (repeat (first | exact Pd.nil | exact Pd.fnil | refine Pd.inner ?_ | refine Pd.skip (by decide +kernel) ?_ | refine Pd.fcons (RdL.one 0 rfl rfl) ?_ | refine Pd.fcons (RdL.one 1 rfl rfl) ?_ | refine Pd.fcons (RdL.one 2 rfl rfl) ?_ | refine Pd.fcons (RdL.one 3 rfl rfl) ?_ | refine Pd.fcons (RdL.one 4 rfl rfl) ?_ | refine Pd.fcons (RdL.many 0 rfl rfl) ?_ | refine Pd.fcons (RdL.many 1 rfl rfl) ?_ | refine Pd.fcons (RdL.many 2 rfl rfl) ?_ | refine Pd.fcons (RdL.many 3 rfl rfl) ?_ | refine Pd.fcons (RdL.many 4 rfl rfl) ?_ | refine Pd.cons (RdL.one 0 rfl rfl) ?_ | refine Pd.cons (RdL.one 1 rfl rfl) ?_ | refine Pd.cons (RdL.one 2 rfl rfl) ?_ | refine Pd.cons (RdL.one 3 rfl rfl) ?_ | refine Pd.cons (RdL.one 4 rfl rfl) ?_ | refine Pd.cons (RdL.many 0 rfl rfl) ?_ | refine Pd.cons (RdL.many 1 rfl rfl) ?_ | refine Pd.cons (RdL.many 2 rfl rfl) ?_ | refine Pd.cons (RdL.many 3 rfl rfl) ?_ | refine Pd.cons (RdL.many 4 rfl rfl) ?_ | refine Pd.fconsM (MpL.one 0 rfl) ?_ | refine Pd.fconsM (MpL.one 1 rfl) ?_ | refine Pd.fconsM (MpL.one 2 rfl) ?_ | refine Pd.fconsM (MpL.one 3 rfl) ?_ | refine Pd.fconsM (MpL.one 4 rfl) ?_ | refine Pd.consM (MpL.one 0 rfl) ?_ | refine Pd.consM (MpL.one 1 rfl) ?_ | refine Pd.consM (MpL.one 2 rfl) ?_ | refine Pd.consM (MpL.one 3 rfl) ?_ | refine Pd.consM (MpL.one 4 rfl) ?_)))
      rintro v L' ⟨a2, c2, rfl, hc2, rfl⟩
      (repeat (first | refine VA.go (VA.nil ?_) | refine VA.go (VA.ld 0 rfl rfl rfl rfl rfl ?_)))
      exact ⟨(a2, c2), trivial, Sub.cons (by show some (Value.slice a2 (0 + l.length + 2) c2) = _; rw [e2]) (Sub.nil _), (Imp.pick 0 (congrArg some e1) Imp.nil).ent⟩
  rintro ⟨a2, c2⟩ _
  (repeat (first | refine VC.seq ?_ | refine VC.region ?_ | refine VC.block ?_ | refine VC.label ?_ | refine VC.scope ?_ | refine VO.go (VO.nil ?_) | refine VO.go (VO.ld 0 rfl rfl rfl rfl ?_)))
  refine VO.go (VO.callV' (fun Fr w hF hs hS => lin_at (l := l ++ [xRec, yRec]) (b := true) (c := 0) Fr w (RwIn.sl recC_len (hS.at_ 0 rfl)) rfl (by simp; omega) (TabF.st rfl hT hF hs) hlin hchk) rfl ?_)
  (repeat (first | refine VC.seq ?_ | refine VC.region ?_ | refine VC.block ?_ | refine VC.label ?_ | refine VC.scope ?_ | refine VO.go (VO.nil ?_) | refine VO.go (VO.ld 0 rfl rfl rfl rfl ?_)))
  refine VO.go (VO.yes 135 true rfl rfl ?_)
  (repeat (first | refine VC.seq ?_ | refine VC.region ?_ | refine VC.block ?_ | refine VC.label ?_ | refine VC.scope ?_ | refine VO.go (VO.nil ?_) | refine VO.go (VO.ld 0 rfl rfl rfl rfl ?_)))
  refine VO.go (VO.yes 139 true rfl rfl ?_)
  refine VO.go (VO.callV' (fun Fr w hF hs _ => found_spec Fr w (TabF.st rfl hT hF hs)) rfl ?_)
  (repeat (first | refine VC.seq ?_ | refine VC.region ?_ | refine VC.block ?_ | refine VC.label ?_ | refine VC.scope ?_ | refine VO.go (VO.nil ?_) | refine VO.go (VO.ld 0 rfl rfl rfl rfl ?_)))
  exact VC.ret (Ret.tmp 2 rfl rfl Imp.nil.ent ⟨rfl, rfl⟩)
end Go.Proofs.YthabecjplpomhaaDoor.Br
