/- MetersParts: the order makes no difference, parts add up, shares come to a hundred and no more. No condition but the table of powers of ten. -/
import Derived.Test.YtoinocihlfmnnaaDoorMSum
import Derived.Test.YtoinocihlfmnnaaDoorMCount
namespace Go.Proofs.YtoinocihlfmnnaaDoor.Met
open Go Go.Proofs.YtoinocihlfmnnaaDoor.Vg Go.Proofs.YtoinocihlfmnnaaDoor.T Go.Proofs.YtoinocihlfmnnaaDoor.Api Go.Proofs.YtoinocihlfmnnaaDoor.Cnt Go.Proofs.YtoinocihlfmnnaaDoor.LibC
set_option linter.unusedSimpArgs false
set_option linter.unusedVariables false
attribute [local irreducible] VO VC VA

/-- A meter of four classes that saw these. -/
def gm (l : List FG) : MM := seeAll (MM.new 4) (l.map Prod.fst)
theorem gm_c (l : List FG) : (gm l).c = 4 := by unfold gm; rw [seeAll_c]; rfl
theorem gm_len (l : List FG) : (gm l).l.length = 19 := by unfold gm; rw [seeAll_len]; simp [MM.new]
theorem gm_at (l : List FG) (i : Nat) : (gm l).at_ i = incs 4 (l.map Prod.fst) i := seeAll_new 4 _ i
theorem gm_next (l : List FG) (x : FG) : gm (l ++ [x]) = ((gm l).see x.1).1 := by unfold gm; rw [List.map_append]; exact seeAll_one _ _ _
theorem gm_ok (l : List FG) (hl : l.length ≤ 60) : OkB (gm l) 5760 := by
  have h := (OkB.new (c := 4) (by decide) (by decide)).seeAll (l.map Prod.fst)
  refine ⟨h.c1, h.c4, h.len, fun j => ?_⟩
  have := h.low j
  have e : ((l.map Prod.fst).length : Int) ≤ 60 := by simp only [List.length_map]; omega
  refine ⟨this.1, ?_⟩
  have h3 := this.2
  show (seeAll (MM.new 4) _).at_ j ≤ 5760
  omega
theorem gm_perm {l m : List FG} (h : l.Perm m) : gm l = gm m := mm_ext (by rw [gm_c, gm_c]) (by rw [gm_len, gm_len]) fun i => by rw [gm_at, gm_at]; exact incs_perm (h.map _) i
theorem gm_app (l m : List FG) (i : Nat) : (gm (l ++ m)).at_ i = (gm l).at_ i + (gm m).at_ i := by rw [gm_at, gm_at, gm_at, List.map_append, incs_app]
theorem gm_calls (l m : List FG) (n : Int) : (gm (l ++ m)).calls n = (gm l).calls n + (gm m).calls n := by
  unfold MM.calls; rw [gm_c, gm_c, gm_c]; split
  · rw [gm_app]
  · rfl
theorem gm_bytes (l m : List FG) (n : Int) : (gm (l ++ m)).bytes n = (gm l).bytes n + (gm m).bytes n := by
  unfold MM.bytes; rw [gm_c, gm_c, gm_c]; split
  · rw [gm_app]
  · rfl
theorem gm_refused (l m : List FG) (n : Int) : (gm (l ++ m)).refused n = (gm l).refused n + (gm m).refused n := by
  unfold MM.refused; rw [gm_c, gm_c, gm_c]; split
  · rw [gm_app]
  · rfl
theorem gm_replies (l m : List FG) : (gm (l ++ m)).replies = (gm l).replies + (gm m).replies := by
  unfold MM.replies; rw [gm_c, gm_c, gm_c, gm_app]

def rot (l : List FG) (t : Nat) : List FG := l.drop (t % l.length) ++ l.take (t % l.length)
theorem rot_perm (l : List FG) (t : Nat) : (rot l t).Perm l := by
  unfold rot
  exact List.perm_append_comm.trans (by rw [List.take_append_drop])
theorem rot_len (l : List FG) (t : Nat) : (rot l t).length = l.length := (rot_perm l t).length_eq
theorem rot_at {l : List FG} {i t : Nat} (hi : i < l.length) : (rot l t)[i]? = l[(i + t) % l.length]? := by
  have hm : t % l.length < l.length := Nat.mod_lt _ (by omega)
  have e : (i + t) % l.length = (i + t % l.length) % l.length := by simp [Nat.add_mod]
  unfold rot
  rw [e]
  generalize t % l.length = m at hm
  by_cases h : i < l.length - m
  · rw [List.getElem?_append_left (by simpa using h), List.getElem?_drop, Nat.mod_eq_of_lt (by omega), Nat.add_comm]
  · have e2 : (i + m) % l.length = i + m - l.length := by rw [Nat.mod_eq_sub_mod (by omega), Nat.mod_eq_of_lt (by omega)]
    rw [List.getElem?_append_right (by simp; omega), List.length_drop, List.getElem?_take, if_pos (by omega), e2]
    congr 1; omega

def shs (M : MM) : Nat → Int
  | 0 => 0
  | n + 1 => shs M n + M.share n
theorem shs_le {M : MM} (h : M.Ok) : ∀ n : Nat, 0 ≤ shs M n ∧ shs M n ≤ n * 100
  | 0 => by simp [shs]
  | n + 1 => by
    have h1 := shs_le h n
    have h2 := h.share n
    simp only [shs]; omega
theorem sum11 {M : MM} (hc : M.c = 4) : M.sum 11 = M.sum 4 := by
  have hb : ∀ n : Nat, 4 ≤ n → M.bytes n = 0 := fun n hn => by rw [MM.bytes, if_neg (by omega)]
  simp only [MM.sum]
  rw [hb 4 (by decide), hb 5 (by decide), hb 6 (by decide), hb 7 (by decide), hb 8 (by decide), hb 9 (by decide), hb 10 (by decide)]
  omega
theorem shs11 {M : MM} (hc : M.c = 4) : shs M 11 = shs M 4 := by
  have hb : ∀ n : Nat, 4 ≤ n → M.share n = 0 := fun n hn => by rw [MM.share, if_neg (by omega)]
  simp only [shs]
  rw [hb 4 (by decide), hb 5 (by decide), hb 6 (by decide), hb 7 (by decide), hb 8 (by decide), hb 9 (by decide), hb 10 (by decide)]
  omega
theorem shares {M : MM} (h : M.Ok) (hc : M.c = 4) : 0 ≤ M.sum 11 ∧ shs M 11 ≤ 100 ∧ (0 < M.sum 11 → 96 < shs M 11) ∧ (M.sum 11 = 0 → shs M 11 = 0) := by
  rw [sum11 hc, shs11 hc]
  have hs := (h.sum 4).1
  refine ⟨hs, ?_⟩
  by_cases hz : M.sum 4 = 0
  · have h0 : ∀ n : Int, M.share n = 0 := fun n => by rw [MM.share]; split
                                                      · rw [hc, if_pos hz]
                                                      · rfl
    have : shs M 4 = 0 := by simp only [shs, h0]; rfl
    refine ⟨by omega, fun h => by omega, fun _ => this⟩
  · have hq : ∀ n : Nat, n < 4 → M.share n = M.bytes n * 100 / M.sum 4 := fun n hn => by
      rw [MM.share, if_pos (by omega), hc, if_neg hz]
    have lo : ∀ n : Nat, n < 4 → M.share n * M.sum 4 ≤ M.bytes n * 100 := fun n hn => by rw [hq n hn]; exact Int.ediv_mul_le _ hz
    have hi : ∀ n : Nat, n < 4 → M.bytes n * 100 < (M.share n + 1) * M.sum 4 := fun n hn => by rw [hq n hn]; exact Int.lt_ediv_add_one_mul_self _ (by omega)
    have e1 : M.sum 4 = M.bytes 0 + M.bytes 1 + M.bytes 2 + M.bytes 3 := by simp [MM.sum]
    have e2 : shs M 4 = M.share 0 + M.share 1 + M.share 2 + M.share 3 := by simp [shs]
    have l0 := lo 0 (by decide)
    have l1 := lo 1 (by decide)
    have l2 := lo 2 (by decide)
    have l3 := lo 3 (by decide)
    have g0 := hi 0 (by decide)
    have g1 := hi 1 (by decide)
    have g2 := hi 2 (by decide)
    have g3 := hi 3 (by decide)
    simp only [Int.natCast_zero, Int.natCast_one, Int.cast_ofNat_Int] at l0 l1 l2 l3 g0 g1 g2 g3
    generalize M.sum 4 = S at *
    generalize shs M 4 = Q at *
    generalize M.share 0 = q0 at *
    generalize M.share 1 = q1 at *
    generalize M.share 2 = q2 at *
    generalize M.share 3 = q3 at *
    generalize M.bytes 0 = b0 at *
    generalize M.bytes 1 = b1 at *
    generalize M.bytes 2 = b2 at *
    generalize M.bytes 3 = b3 at *
    rw [Int.add_mul, Int.one_mul] at g0 g1 g2 g3
    have eQ : Q * S = q0 * S + q1 * S + q2 * S + q3 * S := by rw [e2, Int.add_mul, Int.add_mul, Int.add_mul]
    refine ⟨Int.le_of_mul_le_mul_right (a := S) (by rw [eQ]; omega) (by omega), fun _ => Int.lt_of_mul_lt_mul_right (a := S) (by rw [eQ]; omega) (by omega), fun h => absurd h hz⟩

set_option maxRecDepth 100000 in
set_option maxHeartbeats 1000000 in
theorem mparts_spec (Fr : Nat → Prop) (w : World) {a : Option Addr} {cap : Nat} {l : List FG} (h : FsIn Fr w a l) (hll : l.length ≤ 9223372036854775807) (p t : Int) (hp : 0 ≤ p ∧ p ≤ 255) (ht : 0 ≤ t ∧ t ≤ 255) (hT : TabF Fr w) :
    Tri Tryd.prog 3 [.slice a l.length cap, .int .u8 p, .int .u8 t] Fr w [] (fun v L => v = .bool true ∧ L = []) := by
  obtain ⟨p, rfl⟩ := Int.eq_ofNat_of_zero_le hp.1
  obtain ⟨t, rfl⟩ := Int.eq_ofNat_of_zero_le ht.1
  refine Tri.of 185 Tryd.func3 rfl (by kernel_rfl) tabOk rfl rfl ?_
  (repeat (first | refine VC.seq ?_ | refine VC.region ?_ | refine VC.block ?_ | refine VC.label ?_ | refine VC.scope ?_ | refine VO.go (VO.nil ?_) | refine VO.go (VO.ld 0 rfl rfl rfl rfl ?_)))
  refine VO.go (VO.callV' (fun Fr w hF hs _ => great_spec Fr w (h.of hF hs) hll 60) rfl ?_)
  (repeat (first | refine VC.seq ?_ | refine VC.region ?_ | refine VC.block ?_ | refine VC.label ?_ | refine VC.scope ?_ | refine VO.go (VO.nil ?_) | refine VO.go (VO.ld 0 rfl rfl rfl rfl ?_)))
  refine VC.cond rfl (fun _ => ?_) (fun hg => VC.skip ?_)
  · (repeat (first | refine VC.seq ?_ | refine VC.region ?_ | refine VC.block ?_ | refine VC.label ?_ | refine VC.scope ?_ | refine VO.go (VO.nil ?_) | refine VO.go (VO.ld 0 rfl rfl rfl rfl ?_)))
    refine VO.go (VO.callV' (fun Fr w hF hs _ => counted_spec Fr w (TabF.st rfl hT hF hs)) rfl ?_)
    (repeat (first | refine VC.seq ?_ | refine VC.region ?_ | refine VC.block ?_ | refine VC.label ?_ | refine VC.scope ?_ | refine VO.go (VO.nil ?_) | refine VO.go (VO.ld 0 rfl rfl rfl rfl ?_)))
    exact VC.ret (Ret.tmp 6 rfl rfl Imp.nil.ent ⟨rfl, rfl⟩)
  have hl60 : l.length ≤ 60 := by have := (great_no hg).1; simp only [List.length_map] at this; omega
  (repeat (first | refine VC.seq ?_ | refine VC.region ?_ | refine VC.block ?_ | refine VC.label ?_ | refine VC.scope ?_ | refine VO.go (VO.nil ?_) | refine VO.go (VO.ld 0 rfl rfl rfl rfl ?_)))
  refine VO.go (VO.call0 rfl (fun Fr w => new_spec Fr w 4 (by decide) (by decide)) ?_)
  rintro _ _ ⟨pa, rfl, rfl⟩
  (repeat (first | refine VC.seq ?_ | refine VC.region ?_ | refine VC.block ?_ | refine VC.label ?_ | refine VC.scope ?_ | refine VO.go (VO.nil ?_) | refine VO.go (VO.ld 0 rfl rfl rfl rfl ?_)))
  refine VO.go (VO.call0 rfl (fun Fr w => new_spec Fr w 4 (by decide) (by decide)) ?_)
  rintro _ _ ⟨pb, rfl, rfl⟩
  (repeat (first | refine VC.seq ?_ | refine VC.region ?_ | refine VC.block ?_ | refine VC.label ?_ | refine VC.scope ?_ | refine VO.go (VO.nil ?_) | refine VO.go (VO.ld 0 rfl rfl rfl rfl ?_)))
  refine VO.go (VO.call0 rfl (fun Fr w => new_spec Fr w 4 (by decide) (by decide)) ?_)
  rintro _ _ ⟨pc, rfl, rfl⟩
  (repeat (first | refine VC.seq ?_ | refine VC.region ?_ | refine VC.block ?_ | refine VC.label ?_ | refine VC.scope ?_ | refine VO.go (VO.nil ?_) | refine VO.go (VO.ld 0 rfl rfl rfl rfl ?_)))
  refine VO.go (VO.call0 rfl (fun Fr w => new_spec Fr w 4 (by decide) (by decide)) ?_)
  rintro _ _ ⟨pd, rfl, rfl⟩
  (repeat (first | refine VC.seq ?_ | refine VC.region ?_ | refine VC.block ?_ | refine VC.label ?_ | refine VC.scope ?_ | refine VO.go (VO.nil ?_) | refine VO.go (VO.ld 0 rfl rfl rfl rfl ?_)))
  refine VO.go (VO.yes 41 false rfl rfl ?_)
  (repeat (first | refine VC.seq ?_ | refine VC.region ?_ | refine VC.block ?_ | refine VC.label ?_ | refine VC.scope ?_ | refine VO.go (VO.nil ?_) | refine VO.go (VO.ld 0 rfl rfl rfl rfl ?_)))
  refine VO.go (VO.yes 45 false rfl rfl ?_)
  (repeat (first | refine VC.seq ?_ | refine VC.region ?_ | refine VC.block ?_ | refine VC.label ?_ | refine VC.scope ?_ | refine VO.go (VO.nil ?_) | refine VO.go (VO.ld 0 rfl rfl rfl rfl ?_)))
  refine VO.go (VO.yes 49 false rfl rfl ?_)
  (repeat (first | refine VC.seq ?_ | refine VC.region ?_ | refine VC.block ?_ | refine VC.label ?_ | refine VC.scope ?_ | refine VO.go (VO.nil ?_) | refine VO.go (VO.ld 0 rfl rfl rfl rfl ?_)))
  refine VC.condF rfl (VC.skip ?_)
  (repeat (first | refine VC.seq ?_ | refine VC.region ?_ | refine VC.block ?_ | refine VC.label ?_ | refine VC.scope ?_ | refine VO.go (VO.nil ?_) | refine VO.go (VO.ld 0 rfl rfl rfl rfl ?_)))
  refine VC.loop (σ := Nat) (fun i => [(0, .slice a l.length cap), (1, .int .u8 p), (2, .int .u8 t), (7, .pointer (some ⟨pa, 0, none⟩)), (9, .pointer (some ⟨pb, 0, none⟩)), (11, .pointer (some ⟨pc, 0, none⟩)), (13, .pointer (some ⟨pd, 0, none⟩)), (15, .int .i64 i)])
    (fun i => [mtH pd (gm ((l.take i).drop (p % (l.length + 1)))), mtH pc (gm (l.take (min i (p % (l.length + 1))))), mtH pb (gm ((rot l t).take i)), mtH pa (gm (l.take i))]) (fun i => i ≤ l.length) (fun i => l.length - i) 0 (Nat.zero_le _)
    (Sub.cons rfl (Sub.cons rfl (Sub.cons rfl (Sub.cons rfl (Sub.cons rfl (Sub.cons rfl (Sub.cons rfl (Sub.cons rfl (Sub.nil _))))))))) (Ent.of_eq (by simp; exact ⟨rfl, rfl, rfl, rfl⟩)) ?_
  intro i hi
  have hA := gm_ok (l.take i) (by rw [List.length_take]; omega)
  have hB := gm_ok ((rot l t).take i) (by rw [List.length_take, rot_len]; omega)
  have hC := gm_ok (l.take (min i (p % (l.length + 1)))) (by rw [List.length_take]; omega)
  have hD := gm_ok ((l.take i).drop (p % (l.length + 1))) (by rw [List.length_drop, List.length_take]; omega)
  have hkl : p % (l.length + 1) < l.length + 1 := Nat.mod_lt _ (by omega)
  have hki : ((p % (l.length + 1) : Nat) : Int) = (p : Int) % ((l.length : Int) + 1) := by simp
  generalize hke : p % (l.length + 1) = k at hC hD hkl hki ⊢
  (repeat (first | refine VC.seq ?_ | refine VC.region ?_ | refine VC.block ?_ | refine VC.label ?_ | refine VC.scope ?_ | refine VO.go (VO.nil ?_) | refine VO.go (VO.ld 0 rfl rfl rfl rfl ?_)))
  refine VC.condP rfl (fun h1 => VC.skip ?_) (fun h1 => VC.exit ?_)
  · have hi2 : i < l.length := by omega
    have hx := List.getElem?_eq_getElem hi2
    generalize l[i] = x at hx
    have hm2 : (i + t) % l.length < l.length := Nat.mod_lt _ (by omega)
    have hy := List.getElem?_eq_getElem hm2
    generalize l[(i + t) % l.length] = y at hy
    have hry := rot_at (t := t) hi2
    rw [hy] at hry
    obtain ⟨fb, fo, rfl, ra, _⟩ := FsIn.rd (X := ⟨Tryd.prog, tab, tabOk, 185, Fr, w⟩) h hx
    obtain ⟨fb', fo', he, ry, _⟩ := FsIn.rd (X := ⟨Tryd.prog, tab, tabOk, 185, Fr, w⟩) h hy
    simp only [Option.some.injEq, Addr.mk.injEq, and_true] at he
    obtain ⟨rfl, rfl⟩ := he
    have eA : l.take (i + 1) = l.take i ++ [x] := by rw [List.take_add_one, hx]; rfl
    have eB : (rot l t).take (i + 1) = (rot l t).take i ++ [y] := by rw [List.take_add_one, hry]; rfl
    have hmi : (((i + t) % l.length : Nat) : Int) = ((i : Int) + t) % l.length := by simp
    (repeat (first | refine VC.seq ?_ | refine VC.region ?_ | refine VC.block ?_ | refine VC.label ?_ | refine VC.scope ?_ | refine VO.go (VO.nil ?_) | refine VO.go (VO.ld 0 rfl rfl rfl rfl ?_)))
    refine VO.go (VO.conv t rfl rfl rfl rfl rfl (i64_in _ (by omega) (by omega)) ?_)
    refine VO.go (VO.add rfl rfl (by omega) (by omega) ?_)
    (repeat (first | refine VC.seq ?_ | refine VC.region ?_ | refine VC.block ?_ | refine VC.label ?_ | refine VC.scope ?_ | refine VO.go (VO.nil ?_) | refine VO.go (VO.ld 0 rfl rfl rfl rfl ?_)))
    refine VO.go (VO.light (light_rem rfl rfl (by omega) (by omega)) ?_)
    refine VO.go (VO.light (light_idx ((i + t) % l.length) rfl rfl rfl rfl rfl hmi.symm hm2) ?_)
    refine VO.go (VO.load rfl rfl (ry _) (VO.go (VO.alloc rfl fun xb => ?_)))
    refine VO.go (VO.stA (vs := fgc y) (cs' := fgc y) 0 rfl rfl rfl rfl (Nat.le_refl _) rfl rfl rfl ?_)
    (repeat (first | refine VC.seq ?_ | refine VC.region ?_ | refine VC.block ?_ | refine VC.label ?_ | refine VC.scope ?_ | refine VO.go (VO.nil ?_) | refine VO.go (VO.ld 0 rfl rfl rfl rfl ?_)))
    refine VO.go (VO.light (light_idx i rfl rfl rfl rfl rfl rfl hi2) ?_)
    refine VO.go (VO.load rfl rfl (ra _) ?_)
    refine VO.go (VO.callAt 4 rfl (fun Fr w hF hs hS => see_spec Fr w (hA.ok (by omega)) x) rfl (ψ := fun v H => H = mtH pa (gm (l.take (i + 1)))) (fun v L h => ⟨_, h.2, by rw [eA, gm_next]⟩) ?_)
    rintro v1 _ rfl
    (repeat (first | refine VC.seq ?_ | refine VC.region ?_ | refine VC.block ?_ | refine VC.label ?_ | refine VC.scope ?_ | refine VO.go (VO.nil ?_) | refine VO.go (VO.ld 0 rfl rfl rfl rfl ?_)))
    refine VO.go (VO.ldA 0 (fgc y) rfl rfl rfl rfl ?_)
    refine VO.go (VO.callAt 3 rfl (fun Fr w hF hs hS => see_spec Fr w (hB.ok (by omega)) y) rfl (ψ := fun v H => H = mtH pb (gm ((rot l t).take (i + 1)))) (fun v L h => ⟨_, h.2, by rw [eB, gm_next]⟩) ?_)
    rintro v2 _ rfl
    (repeat (first | refine VC.seq ?_ | refine VC.region ?_ | refine VC.block ?_ | refine VC.label ?_ | refine VC.scope ?_ | refine VO.go (VO.nil ?_) | refine VO.go (VO.ld 0 rfl rfl rfl rfl ?_)))
    refine VO.go (VO.conv p rfl rfl rfl rfl rfl (i64_in _ (by omega) (by omega)) ?_)
    (repeat (first | refine VC.seq ?_ | refine VC.region ?_ | refine VC.block ?_ | refine VC.label ?_ | refine VC.scope ?_ | refine VO.go (VO.nil ?_) | refine VO.go (VO.ld 0 rfl rfl rfl rfl ?_)))
    refine VO.go (VO.add rfl rfl (by omega) (by omega) ?_)
    refine VO.go (VO.light (light_rem rfl rfl (by omega) (by omega)) ?_)
    rw [← hki]
    (repeat (first | refine VC.seq ?_ | refine VC.region ?_ | refine VC.block ?_ | refine VC.label ?_ | refine VC.scope ?_ | refine VO.go (VO.nil ?_) | refine VO.go (VO.ld 0 rfl rfl rfl rfl ?_)))
    refine VC.condP rfl (fun h2 => ?_) (fun h2 => ?_)
    · have h2 : i < k := by omega
      have eC : l.take (min (i + 1) k) = l.take (min i k) ++ [x] := by rw [Nat.min_eq_left (by omega), Nat.min_eq_left (by omega), eA]
      have eD : (l.take (i + 1)).drop k = (l.take i).drop k := by
        rw [List.drop_eq_nil_of_le (by rw [List.length_take]; omega), List.drop_eq_nil_of_le (by rw [List.length_take]; omega)]
      (repeat (first | refine VC.seq ?_ | refine VC.region ?_ | refine VC.block ?_ | refine VC.label ?_ | refine VC.scope ?_ | refine VO.go (VO.nil ?_) | refine VO.go (VO.ld 0 rfl rfl rfl rfl ?_)))
      refine VO.go (VO.light (light_idx i rfl rfl rfl rfl rfl rfl hi2) ?_)
      refine VO.go (VO.load rfl rfl (ra _) ?_)
      refine VO.go (VO.callAt 2 rfl (fun Fr w hF hs hS => see_spec Fr w (hC.ok (by omega)) x) rfl (ψ := fun v H => H = mtH pc (gm (l.take (min (i + 1) k)))) (fun v L h => ⟨_, h.2, by rw [eC, gm_next]⟩) ?_)
      rintro v3 _ rfl
      (repeat (first | refine VC.seq ?_ | refine VC.region ?_ | refine VC.block ?_ | refine VC.label ?_ | refine VC.scope ?_ | refine VO.go (VO.nil ?_) | refine VO.go (VO.ld 0 rfl rfl rfl rfl ?_)))
      refine VO.go (VO.add rfl rfl (by omega) (by omega) ?_)
      (repeat (first | refine VC.seq ?_ | refine VC.region ?_ | refine VC.block ?_ | refine VC.label ?_ | refine VC.scope ?_ | refine VO.go (VO.nil ?_) | refine VO.go (VO.ld 0 rfl rfl rfl rfl ?_)))
      exact ⟨i + 1, hi2, by dsimp only; omega, Sub.cons rfl (Sub.cons rfl (Sub.cons rfl (Sub.cons rfl (Sub.cons rfl (Sub.cons rfl (Sub.cons rfl (Sub.cons rfl (Sub.nil _)))))))), (Imp.trans (Imp.app (L := [_]) (M := []) Imp.nil Imp.refl) (Imp.of_eq (by dsimp only; rw [eD]; rfl))).ent⟩
    · have h2 : k ≤ i := by omega
      have eC : l.take (min (i + 1) k) = l.take (min i k) := by rw [Nat.min_eq_right (by omega), Nat.min_eq_right (by omega)]
      have eD : (l.take (i + 1)).drop k = (l.take i).drop k ++ [x] := by
        rw [eA, List.drop_append_of_le_length (by rw [List.length_take]; omega)]
      (repeat (first | refine VC.seq ?_ | refine VC.region ?_ | refine VC.block ?_ | refine VC.label ?_ | refine VC.scope ?_ | refine VO.go (VO.nil ?_) | refine VO.go (VO.ld 0 rfl rfl rfl rfl ?_)))
      refine VO.go (VO.light (light_idx i rfl rfl rfl rfl rfl rfl hi2) ?_)
      refine VO.go (VO.load rfl rfl (ra _) ?_)
      refine VO.go (VO.callAt 1 rfl (fun Fr w hF hs hS => see_spec Fr w (hD.ok (by omega)) x) rfl (ψ := fun v H => H = mtH pd (gm ((l.take (i + 1)).drop k))) (fun v L h => ⟨_, h.2, by rw [eD, gm_next]⟩) ?_)
      rintro v3 _ rfl
      (repeat (first | refine VC.seq ?_ | refine VC.region ?_ | refine VC.block ?_ | refine VC.label ?_ | refine VC.scope ?_ | refine VO.go (VO.nil ?_) | refine VO.go (VO.ld 0 rfl rfl rfl rfl ?_)))
      refine VO.go (VO.add rfl rfl (by omega) (by omega) ?_)
      (repeat (first | refine VC.seq ?_ | refine VC.region ?_ | refine VC.block ?_ | refine VC.label ?_ | refine VC.scope ?_ | refine VO.go (VO.nil ?_) | refine VO.go (VO.ld 0 rfl rfl rfl rfl ?_)))
      exact ⟨i + 1, hi2, by dsimp only; omega, Sub.cons rfl (Sub.cons rfl (Sub.cons rfl (Sub.cons rfl (Sub.cons rfl (Sub.cons rfl (Sub.cons rfl (Sub.cons rfl (Sub.nil _)))))))), (Imp.trans (Imp.app (L := [_]) (M := []) Imp.nil Imp.refl) (Imp.of_eq (by dsimp only; rw [eC]; rfl))).ent⟩
  · have hil : i = l.length := by omega
    subst hil
    have eB : gm ((rot l t).take l.length) = gm l := by
      rw [List.take_of_length_le (by rw [rot_len]; exact Nat.le_refl _)]
      exact gm_perm (rot_perm l t)
    rw [eB] at hB
    rw [Nat.min_eq_right (by omega)] at hC
    rw [List.take_length] at hA hD
    have hMA := hA.ok (by omega)
    have hMC := hC.ok (by omega)
    have hMD := hD.ok (by omega)
    have sC : ∀ n, (gm l).calls n = (gm (l.take k)).calls n + (gm (l.drop k)).calls n := fun n => by rw [← gm_calls, List.take_append_drop]
    have sB : ∀ n, (gm l).bytes n = (gm (l.take k)).bytes n + (gm (l.drop k)).bytes n := fun n => by rw [← gm_bytes, List.take_append_drop]
    have sR : ∀ n, (gm l).refused n = (gm (l.take k)).refused n + (gm (l.drop k)).refused n := fun n => by rw [← gm_refused, List.take_append_drop]
    have sP : (gm l).replies = (gm (l.take k)).replies + (gm (l.drop k)).replies := by rw [← gm_replies, List.take_append_drop]
    have hsh := shares hMA (gm_c l)
    generalize hae : gm l = A at hA hB hMA sC sB sR sP hsh
    generalize hce : gm (l.take k) = C at hC hMC sC sB sR sP
    generalize hde : gm (l.drop k) = D at hD hMD sC sB sR sP
    (repeat (first | refine VC.seq ?_ | refine VC.region ?_ | refine VC.block ?_ | refine VC.label ?_ | refine VC.scope ?_ | refine VO.go (VO.nil ?_) | refine VO.go (VO.ld 0 rfl rfl rfl rfl ?_)))
    refine VC.loop (σ := Nat) (fun n => [(7, .pointer (some ⟨pa, 0, none⟩)), (9, .pointer (some ⟨pb, 0, none⟩)), (11, .pointer (some ⟨pc, 0, none⟩)), (13, .pointer (some ⟨pd, 0, none⟩)), (17, .int .i64 (shs A n)), (18, .int .i64 (A.sum n)), (19, .int .i64 n)])
      (fun _ => [mtH pd D, mtH pc C, mtH pb A, mtH pa A]) (fun n => n ≤ 11) (fun n => 11 - n) 0 (Nat.zero_le _) (Sub.cons rfl (Sub.cons rfl (Sub.cons rfl (Sub.cons rfl (Sub.cons rfl (Sub.cons rfl (Sub.cons rfl (Sub.nil _))))))))
      (Ent.of_eq (by rw [eB, Nat.min_eq_right (by omega), List.take_length, hae, hce, hde])) ?_
    intro n hn
    (repeat (first | refine VC.seq ?_ | refine VC.region ?_ | refine VC.block ?_ | refine VC.label ?_ | refine VC.scope ?_ | refine VO.go (VO.nil ?_) | refine VO.go (VO.ld 0 rfl rfl rfl rfl ?_)))
    have z1 := shs_le hMA n
    have z2 := hMA.sum n
    refine VC.condP rfl (fun h2 => VC.skip ?_) (fun h2 => VC.exit ?_)
    · have c1 := hMA.calls n
      have c2 := hMC.calls n
      have c3 := hMD.calls n
      have b1 := hMA.bytes n
      have b2 := hMC.bytes n
      have b3 := hMD.bytes n
      have r2 := hMC.refused n
      have r3 := hMD.refused n
      have s1 := hMA.share n
      (repeat (first | refine VC.seq ?_ | refine VC.region ?_ | refine VC.block ?_ | refine VC.label ?_ | refine VC.scope ?_ | refine VO.go (VO.nil ?_) | refine VO.go (VO.ld 0 rfl rfl rfl rfl ?_)))
      refine VO.go (VO.callV' (fun Fr w hF hs hS => calls_spec Fr w hMA (hS.at_ 3 rfl) n) rfl ?_)
      (repeat (first | refine VC.seq ?_ | refine VC.region ?_ | refine VC.block ?_ | refine VC.label ?_ | refine VC.scope ?_ | refine VO.go (VO.nil ?_) | refine VO.go (VO.ld 0 rfl rfl rfl rfl ?_)))
      refine VO.go (VO.callV' (fun Fr w hF hs hS => calls_spec Fr w hMC (hS.at_ 1 rfl) n) rfl ?_)
      (repeat (first | refine VC.seq ?_ | refine VC.region ?_ | refine VC.block ?_ | refine VC.label ?_ | refine VC.scope ?_ | refine VO.go (VO.nil ?_) | refine VO.go (VO.ld 0 rfl rfl rfl rfl ?_)))
      refine VO.go (VO.callV' (fun Fr w hF hs hS => calls_spec Fr w hMD (hS.at_ 0 rfl) n) rfl ?_)
      refine VO.go (VO.add rfl rfl (by omega) (by omega) ?_)
      (repeat (first | refine VC.seq ?_ | refine VC.region ?_ | refine VC.block ?_ | refine VC.label ?_ | refine VC.scope ?_ | refine VO.go (VO.nil ?_) | refine VO.go (VO.ld 0 rfl rfl rfl rfl ?_)))
      refine VO.go (VO.yes 113 false rfl (by rw [sC n]; exact bne_self_eq_false _) ?_)
      (repeat (first | refine VC.seq ?_ | refine VC.region ?_ | refine VC.block ?_ | refine VC.label ?_ | refine VC.scope ?_ | refine VO.go (VO.nil ?_) | refine VO.go (VO.ld 0 rfl rfl rfl rfl ?_)))
      refine VO.go (VO.callV' (fun Fr w hF hs hS => bytes_spec Fr w hMA (hS.at_ 3 rfl) n) rfl ?_)
      (repeat (first | refine VC.seq ?_ | refine VC.region ?_ | refine VC.block ?_ | refine VC.label ?_ | refine VC.scope ?_ | refine VO.go (VO.nil ?_) | refine VO.go (VO.ld 0 rfl rfl rfl rfl ?_)))
      refine VO.go (VO.callV' (fun Fr w hF hs hS => bytes_spec Fr w hMC (hS.at_ 1 rfl) n) rfl ?_)
      (repeat (first | refine VC.seq ?_ | refine VC.region ?_ | refine VC.block ?_ | refine VC.label ?_ | refine VC.scope ?_ | refine VO.go (VO.nil ?_) | refine VO.go (VO.ld 0 rfl rfl rfl rfl ?_)))
      refine VO.go (VO.callV' (fun Fr w hF hs hS => bytes_spec Fr w hMD (hS.at_ 0 rfl) n) rfl ?_)
      refine VO.go (VO.add rfl rfl (by omega) (by omega) ?_)
      (repeat (first | refine VC.seq ?_ | refine VC.region ?_ | refine VC.block ?_ | refine VC.label ?_ | refine VC.scope ?_ | refine VO.go (VO.nil ?_) | refine VO.go (VO.ld 0 rfl rfl rfl rfl ?_)))
      refine VO.go (VO.yes 126 false rfl (by rw [sB n]; exact bne_self_eq_false _) ?_)
      (repeat (first | refine VC.seq ?_ | refine VC.region ?_ | refine VC.block ?_ | refine VC.label ?_ | refine VC.scope ?_ | refine VO.go (VO.nil ?_) | refine VO.go (VO.ld 0 rfl rfl rfl rfl ?_)))
      refine VO.go (VO.callV' (fun Fr w hF hs hS => refused_spec Fr w hMA (hS.at_ 3 rfl) n) rfl ?_)
      (repeat (first | refine VC.seq ?_ | refine VC.region ?_ | refine VC.block ?_ | refine VC.label ?_ | refine VC.scope ?_ | refine VO.go (VO.nil ?_) | refine VO.go (VO.ld 0 rfl rfl rfl rfl ?_)))
      refine VO.go (VO.callV' (fun Fr w hF hs hS => refused_spec Fr w hMC (hS.at_ 1 rfl) n) rfl ?_)
      (repeat (first | refine VC.seq ?_ | refine VC.region ?_ | refine VC.block ?_ | refine VC.label ?_ | refine VC.scope ?_ | refine VO.go (VO.nil ?_) | refine VO.go (VO.ld 0 rfl rfl rfl rfl ?_)))
      refine VO.go (VO.callV' (fun Fr w hF hs hS => refused_spec Fr w hMD (hS.at_ 0 rfl) n) rfl ?_)
      refine VO.go (VO.add rfl rfl (by omega) (by omega) ?_)
      (repeat (first | refine VC.seq ?_ | refine VC.region ?_ | refine VC.block ?_ | refine VC.label ?_ | refine VC.scope ?_ | refine VO.go (VO.nil ?_) | refine VO.go (VO.ld 0 rfl rfl rfl rfl ?_)))
      refine VC.condF (congrArg (fun b => some (Value.bool b)) (by rw [sR n]; exact bne_self_eq_false _)) (VC.skip ?_)
      (repeat (first | refine VC.seq ?_ | refine VC.region ?_ | refine VC.block ?_ | refine VC.label ?_ | refine VC.scope ?_ | refine VO.go (VO.nil ?_) | refine VO.go (VO.ld 0 rfl rfl rfl rfl ?_)))
      refine VO.go (VO.callV' (fun Fr w hF hs hS => share_spec Fr w hMA (hS.at_ 3 rfl) n) rfl ?_)
      refine VO.go (VO.add rfl rfl (by omega) (by omega) ?_)
      (repeat (first | refine VC.seq ?_ | refine VC.region ?_ | refine VC.block ?_ | refine VC.label ?_ | refine VC.scope ?_ | refine VO.go (VO.nil ?_) | refine VO.go (VO.ld 0 rfl rfl rfl rfl ?_)))
      refine VO.go (VO.callV' (fun Fr w hF hs hS => bytes_spec Fr w hMA (hS.at_ 3 rfl) n) rfl ?_)
      refine VO.go (VO.add rfl rfl (by omega) (by omega) ?_)
      (repeat (first | refine VC.seq ?_ | refine VC.region ?_ | refine VC.block ?_ | refine VC.label ?_ | refine VC.scope ?_ | refine VO.go (VO.nil ?_) | refine VO.go (VO.ld 0 rfl rfl rfl rfl ?_)))
      refine VO.go (VO.add rfl rfl (by omega) (by omega) ?_)
      (repeat (first | refine VC.seq ?_ | refine VC.region ?_ | refine VC.block ?_ | refine VC.label ?_ | refine VC.scope ?_ | refine VO.go (VO.nil ?_) | refine VO.go (VO.ld 0 rfl rfl rfl rfl ?_)))
      exact ⟨n + 1, by show n + 1 ≤ 11; omega, by dsimp only; omega, Sub.cons rfl (Sub.cons rfl (Sub.cons rfl (Sub.cons rfl (Sub.cons rfl (Sub.cons rfl (Sub.cons rfl (Sub.nil _))))))), Ent.refl⟩
    · have hn11 : n = 11 := by omega
      subst hn11
      obtain ⟨y0, y1, y2, y3⟩ := hsh
      have rp := hMC.at_ (2 * C.c)
      have rq := hMD.at_ (2 * D.c)
      have fin : ∀ {e : Env} {Q : Exit → Env → List HP → Prop} {c : Code}, True := fun {e Q c} => trivial
      (repeat (first | refine VC.seq ?_ | refine VC.region ?_ | refine VC.block ?_ | refine VC.label ?_ | refine VC.scope ?_ | refine VO.go (VO.nil ?_) | refine VO.go (VO.ld 0 rfl rfl rfl rfl ?_)))
      refine VO.go (VO.yes 151 false rfl (decide_eq_false (by omega)) ?_)
      (repeat (first | refine VC.seq ?_ | refine VC.region ?_ | refine VC.block ?_ | refine VC.label ?_ | refine VC.scope ?_ | refine VO.go (VO.nil ?_) | refine VO.go (VO.ld 0 rfl rfl rfl rfl ?_)))
      refine VO.go (VO.split 154 rfl rfl (fun h3 => ?_) (fun h3 => ?_))
      · have h3 := of_decide_eq_true h3
        (repeat (first | refine VC.seq ?_ | refine VC.region ?_ | refine VC.block ?_ | refine VC.label ?_ | refine VC.scope ?_ | refine VO.go (VO.nil ?_) | refine VO.go (VO.ld 0 rfl rfl rfl rfl ?_)))
        refine VO.go (VO.yes 159 false rfl (decide_eq_false (by have := y2 h3; omega)) ?_)
        (repeat (first | refine VC.seq ?_ | refine VC.region ?_ | refine VC.block ?_ | refine VC.label ?_ | refine VC.scope ?_ | refine VO.go (VO.nil ?_) | refine VO.go (VO.ld 0 rfl rfl rfl rfl ?_)))
        refine VO.go (VO.yes 162 false rfl (by simp; omega) ?_)
        (repeat (first | refine VC.seq ?_ | refine VC.region ?_ | refine VC.block ?_ | refine VC.label ?_ | refine VC.scope ?_ | refine VO.go (VO.nil ?_) | refine VO.go (VO.ld 0 rfl rfl rfl rfl ?_)))
        refine VC.condF rfl (VC.skip ?_)
        (repeat (first | refine VC.seq ?_ | refine VC.region ?_ | refine VC.block ?_ | refine VC.label ?_ | refine VC.scope ?_ | refine VO.go (VO.nil ?_) | refine VO.go (VO.ld 0 rfl rfl rfl rfl ?_)))
        refine VO.go (VO.callV' (fun Fr w hF hs hS => table_spec Fr w hMA (hS.at_ 3 rfl) (TabF.st rfl hT hF hs)) rfl ?_)
        (repeat (first | refine VC.seq ?_ | refine VC.region ?_ | refine VC.block ?_ | refine VC.label ?_ | refine VC.scope ?_ | refine VO.go (VO.nil ?_) | refine VO.go (VO.ld 0 rfl rfl rfl rfl ?_)))
        refine VO.go (VO.callV' (fun Fr w hF hs hS => table_spec Fr w hMA (hS.at_ 2 rfl) (TabF.st rfl hT hF hs)) rfl ?_)
        (repeat (first | refine VC.seq ?_ | refine VC.region ?_ | refine VC.block ?_ | refine VC.label ?_ | refine VC.scope ?_ | refine VO.go (VO.nil ?_) | refine VO.go (VO.ld 0 rfl rfl rfl rfl ?_)))
        refine VO.go (VO.yes 172 true rfl (beq_self_eq_true _) ?_)
        (repeat (first | refine VC.seq ?_ | refine VC.region ?_ | refine VC.block ?_ | refine VC.label ?_ | refine VC.scope ?_ | refine VO.go (VO.nil ?_) | refine VO.go (VO.ld 0 rfl rfl rfl rfl ?_)))
        refine VO.go (VO.callV' (fun Fr w hF hs hS => replies_spec Fr w hMA (hS.at_ 3 rfl)) rfl ?_)
        (repeat (first | refine VC.seq ?_ | refine VC.region ?_ | refine VC.block ?_ | refine VC.label ?_ | refine VC.scope ?_ | refine VO.go (VO.nil ?_) | refine VO.go (VO.ld 0 rfl rfl rfl rfl ?_)))
        refine VO.go (VO.callV' (fun Fr w hF hs hS => replies_spec Fr w hMC (hS.at_ 1 rfl)) rfl ?_)
        (repeat (first | refine VC.seq ?_ | refine VC.region ?_ | refine VC.block ?_ | refine VC.label ?_ | refine VC.scope ?_ | refine VO.go (VO.nil ?_) | refine VO.go (VO.ld 0 rfl rfl rfl rfl ?_)))
        refine VO.go (VO.callV' (fun Fr w hF hs hS => replies_spec Fr w hMD (hS.at_ 0 rfl)) rfl ?_)
        refine VO.go (VO.add rfl rfl (by unfold MM.replies; omega) (by unfold MM.replies; omega) ?_)
        (repeat (first | refine VC.seq ?_ | refine VC.region ?_ | refine VC.block ?_ | refine VC.label ?_ | refine VC.scope ?_ | refine VO.go (VO.nil ?_) | refine VO.go (VO.ld 0 rfl rfl rfl rfl ?_)))
        refine VO.go (VO.yes 182 true rfl (by rw [sP]; exact beq_self_eq_true _) ?_)
        refine VO.go (VO.callV' (fun Fr w hF hs _ => counted_spec Fr w (TabF.st rfl hT hF hs)) rfl ?_)
        (repeat (first | refine VC.seq ?_ | refine VC.region ?_ | refine VC.block ?_ | refine VC.label ?_ | refine VC.scope ?_ | refine VO.go (VO.nil ?_) | refine VO.go (VO.ld 0 rfl rfl rfl rfl ?_)))
        exact VC.ret (Ret.tmp 6 rfl rfl Imp.nil.ent ⟨rfl, rfl⟩)
      · have h3 := of_decide_eq_false h3
        have h4 := y3 (by omega)
        (repeat (first | refine VC.seq ?_ | refine VC.region ?_ | refine VC.block ?_ | refine VC.label ?_ | refine VC.scope ?_ | refine VO.go (VO.nil ?_) | refine VO.go (VO.ld 0 rfl rfl rfl rfl ?_)))
        refine VO.go (VO.yes 159 false rfl rfl ?_)
        (repeat (first | refine VC.seq ?_ | refine VC.region ?_ | refine VC.block ?_ | refine VC.label ?_ | refine VC.scope ?_ | refine VO.go (VO.nil ?_) | refine VO.go (VO.ld 0 rfl rfl rfl rfl ?_)))
        refine VO.go (VO.yes 162 true rfl (by simp; omega) ?_)
        (repeat (first | refine VC.seq ?_ | refine VC.region ?_ | refine VC.block ?_ | refine VC.label ?_ | refine VC.scope ?_ | refine VO.go (VO.nil ?_) | refine VO.go (VO.ld 0 rfl rfl rfl rfl ?_)))
        refine VC.condF (congrArg (fun b => some (Value.bool b)) (by rw [h4]; rfl)) (VC.skip ?_)
        (repeat (first | refine VC.seq ?_ | refine VC.region ?_ | refine VC.block ?_ | refine VC.label ?_ | refine VC.scope ?_ | refine VO.go (VO.nil ?_) | refine VO.go (VO.ld 0 rfl rfl rfl rfl ?_)))
        refine VO.go (VO.callV' (fun Fr w hF hs hS => table_spec Fr w hMA (hS.at_ 3 rfl) (TabF.st rfl hT hF hs)) rfl ?_)
        (repeat (first | refine VC.seq ?_ | refine VC.region ?_ | refine VC.block ?_ | refine VC.label ?_ | refine VC.scope ?_ | refine VO.go (VO.nil ?_) | refine VO.go (VO.ld 0 rfl rfl rfl rfl ?_)))
        refine VO.go (VO.callV' (fun Fr w hF hs hS => table_spec Fr w hMA (hS.at_ 2 rfl) (TabF.st rfl hT hF hs)) rfl ?_)
        (repeat (first | refine VC.seq ?_ | refine VC.region ?_ | refine VC.block ?_ | refine VC.label ?_ | refine VC.scope ?_ | refine VO.go (VO.nil ?_) | refine VO.go (VO.ld 0 rfl rfl rfl rfl ?_)))
        refine VO.go (VO.yes 172 true rfl (beq_self_eq_true _) ?_)
        (repeat (first | refine VC.seq ?_ | refine VC.region ?_ | refine VC.block ?_ | refine VC.label ?_ | refine VC.scope ?_ | refine VO.go (VO.nil ?_) | refine VO.go (VO.ld 0 rfl rfl rfl rfl ?_)))
        refine VO.go (VO.callV' (fun Fr w hF hs hS => replies_spec Fr w hMA (hS.at_ 3 rfl)) rfl ?_)
        (repeat (first | refine VC.seq ?_ | refine VC.region ?_ | refine VC.block ?_ | refine VC.label ?_ | refine VC.scope ?_ | refine VO.go (VO.nil ?_) | refine VO.go (VO.ld 0 rfl rfl rfl rfl ?_)))
        refine VO.go (VO.callV' (fun Fr w hF hs hS => replies_spec Fr w hMC (hS.at_ 1 rfl)) rfl ?_)
        (repeat (first | refine VC.seq ?_ | refine VC.region ?_ | refine VC.block ?_ | refine VC.label ?_ | refine VC.scope ?_ | refine VO.go (VO.nil ?_) | refine VO.go (VO.ld 0 rfl rfl rfl rfl ?_)))
        refine VO.go (VO.callV' (fun Fr w hF hs hS => replies_spec Fr w hMD (hS.at_ 0 rfl)) rfl ?_)
        refine VO.go (VO.add rfl rfl (by unfold MM.replies; omega) (by unfold MM.replies; omega) ?_)
        (repeat (first | refine VC.seq ?_ | refine VC.region ?_ | refine VC.block ?_ | refine VC.label ?_ | refine VC.scope ?_ | refine VO.go (VO.nil ?_) | refine VO.go (VO.ld 0 rfl rfl rfl rfl ?_)))
        refine VO.go (VO.yes 182 true rfl (by rw [sP]; exact beq_self_eq_true _) ?_)
        refine VO.go (VO.callV' (fun Fr w hF hs _ => counted_spec Fr w (TabF.st rfl hT hF hs)) rfl ?_)
        (repeat (first | refine VC.seq ?_ | refine VC.region ?_ | refine VC.block ?_ | refine VC.label ?_ | refine VC.scope ?_ | refine VO.go (VO.nil ?_) | refine VO.go (VO.ld 0 rfl rfl rfl rfl ?_)))
        exact VC.ret (Ret.tmp 6 rfl rfl Imp.nil.ent ⟨rfl, rfl⟩)
end Go.Proofs.YtoinocihlfmnnaaDoor.Met
