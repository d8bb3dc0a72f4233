/- Texts of the proof, put together and shortened. No condition. -/
import Derived.Test.YtbbnmgakmcppdaaGreatZy4
set_option maxRecDepth 100000
set_option maxHeartbeats 16000000
set_option linter.unusedVariables false
set_option linter.unusedSectionVars false
set_option linter.unusedSimpArgs false
namespace Go.Proofs.YtbbnmgakmcppdaaGreat
variable (Fr : Nat → Prop) (w : World)
namespace Nd
open Go Vg T Api Kv Ch Lg Rd Win Adm Sched Conf Rep Rk
attribute [local irreducible] VO VC VA
def stepOf (c : ChM) (n by_ : Int) : Int := if chE c ≠ 0 ∨ placeOf c.ms n < 0 ∨ placeOf c.ms n + by_ < 0 ∨ (c.ms.length : Int) ≤ placeOf c.ms n + by_ then -1 else ((c.ms[(placeOf c.ms n + by_).toNat]?).getD (0, 0)).1
theorem stepOf_next (c : ChM) (n : Int) : stepOf c n 1 = nextOf c n := by
 unfold stepOf nextOf memAt
 by_cases h : placeOf c.ms n < 0
 ·rw [if_pos (.inr (.inl h)), if_pos h]
 ·rw [if_neg h]
  by_cases h2 : chOk c ∧ 0 ≤ placeOf c.ms n + 1 ∧ placeOf c.ms n + 1 < c.ms.length
  ·rw [if_pos h2, if_neg (fun k => by have := chE_ok.2 h2.1; omega)]
  ·rw [if_neg h2, if_pos]
   by_cases h3 : chOk c = true
   ·exact .inr (.inr (by have : ¬ (0 ≤ placeOf c.ms n + 1 ∧ placeOf c.ms n + 1 < c.ms.length) := fun k => h2 ⟨h3, k⟩; omega))
   ·exact .inl fun k => h3 (chE_ok.1 k)
theorem stepOf_prev (c : ChM) (n : Int) : stepOf c n (-1) = prevOf c n := by
 unfold stepOf prevOf memAt
 by_cases h2 : chOk c ∧ 0 ≤ placeOf c.ms n - 1 ∧ placeOf c.ms n - 1 < c.ms.length
 ·rw [if_pos h2, if_neg (fun k => by have := chE_ok.2 h2.1; omega)]; rfl
 ·rw [if_neg h2, if_pos]
  by_cases h3 : chOk c = true
  ·exact .inr (by have : ¬ (0 ≤ placeOf c.ms n - 1 ∧ placeOf c.ms n - 1 < c.ms.length) := fun k => h2 ⟨h3, k⟩; omega)
  ·exact .inl fun k => h3 (chE_ok.1 k)
def withM (c : ChM) (n : Int) : ChM × Int := if chE c ≠ 0 ∨ c.epoch = 1099511627776 ∨ n < 0 ∨ 5 < n then (chZ, 2) else if 0 ≤ placeOf c.ms n then (chZ, 62) else (⟨c.epoch + 1, c.ms ++ [(n, c.epoch + 1)], c.drain⟩, 0)
def leavesM (c : ChM) (n : Int) : Int := if chE c ≠ 0 ∨ c.epoch = 1099511627776 then 2 else if placeOf c.ms n < 0 then 4 else if c.ms.length < 2 then 72 else 0
def withoutM (c : ChM) (n : Int) : ChM × Int := if leavesM c n ≠ 0 then (chZ, leavesM c n) else (⟨c.epoch + 1, c.ms.filter fun m => !decide (m.1 = n), if c.drain = n then -1 else c.drain⟩, 0)
def drainM (c : ChM) (n : Int) : ChM × Int := if leavesM c n ≠ 0 then (chZ, leavesM c n) else if c.drain ≠ -1 then (chZ, 62) else (⟨c.epoch + 1, c.ms, n⟩, 0)
def chR (r : ChM × Int) (v : Value) (L : List HP) : Prop := ∃ a c, v = .tuple #[.agg (r.1.cells a c).toArray, .int .i64 r.2] ∧ L = [slH memT 2 a r.1.ms.length c (flat memC r.1.ms)]
section
variable {c : ChM} {a : Option Addr} {cap : Nat}
theorem rstep_spec (h : RwIn memC 2 Fr w a c.ms) (hl : c.ms.length ≤ 1000000) (n by_ : Int) (hb0 : -10 ≤ by_) (hb1 : by_ ≤ 10) : Tri Tryz.prog 173 [.agg (c.cells a cap).toArray, .int .i64 n, .int .i64 by_] Fr w []
  (fun v L => v = .int .i64 (stepOf c n by_) ∧ L = []) := by
 have hp := place_range c.ms n
 have hpb : -1 ≤ placeOf c.ms n ∧ placeOf c.ms n < 1000000 := by rcases hp with h | ⟨k, m, h1, h2, _⟩ <;> omega
 refine TF 41 Tryz.func173 Z yn tabOk Z Z ?_
 refine CS (CG (VG (VB (vs := c.cells a cap) Z fun b => ?_)))
 refine zny ?_
 refine xkl ?_
 refine zny ?_
 refine xkm ?_
 refine xdv ?_
 have no : ∀ {X : Cx} {E : Env} {fn : Func} {L : List HP}, fn.results = #[.tmp 6] → Vg.look E 6 = some (.int .i64 (-1)) → (chE c ≠ 0 ∨ placeOf c.ms n < 0 ∨ placeOf c.ms n + by_ < 0 ∨ (c.ms.length : Int) ≤ placeOf c.ms n + by_) → Ret X fn (fun v L => v = .int .i64 (stepOf c n by_) ∧ L = []) E L := fun {X E fn L} h1 h2 h3 =>
  Ret.tmp 6 h1 h2 Imp.nil.ent ⟨by rw [stepOf, if_pos h3], rfl⟩
 by_cases h1 : chE c = 0
 rotate_left
 ·refine VG (VY 14 true Z ycs ?_)
  refine xdv ?_
  refine VG (VY 18 true Z Z ?_)
  refine xdv ?_
  refine xjy ?_
  refine zpp ?_
  refine xdv ?_
  exact CR (no Z Z (.inl h1))
 refine VG (VY 14 false Z yct ?_)
 refine xdv ?_
 by_cases h2 : placeOf c.ms n < 0
 ·refine VG (VY 18 true Z (DT h2) ?_)
  refine xdv ?_
  refine xjy ?_
  refine zpp ?_
  refine xdv ?_
  exact CR (no Z Z (.inr (.inl h2)))
 refine VG (VY 18 false Z (DF h2) ?_)
 refine xds ?_
 refine xdv ?_
 by_cases h3 : placeOf c.ms n + by_ < 0
 ·refine VG (VY 24 true Z (DT h3) ?_)
  refine zpp ?_
  refine xdv ?_
  exact CR (no Z Z (.inr (.inr (.inl h3))))
 refine VG (VY 24 false Z (DF h3) ?_)
 refine xds ?_
 refine xdv ?_
 refine CP (p := (c.ms.length : Int) ≤ placeOf c.ms n + by_) Z (fun h4 => ?_) (fun h4 => CK ?_)
 ·refine xdv ?_
  exact CR (no Z Z (.inr (.inr (.inr h4))))
 obtain ⟨k, hk⟩ : ∃ k : Nat, placeOf c.ms n + by_ = k := ⟨(placeOf c.ms n + by_).toNat, by omega⟩
 obtain ⟨m, hm⟩ : ∃ m, c.ms[k]? = some m := ⟨_, GE ye⟩
 obtain ⟨mb, mo, hma, ra, rc⟩ := RwIn.rd (X := ⟨Tryz.prog, tab, tabOk, 41, Fr, w⟩) h hm
 subst hma
 refine xdv ?_
 refine xds ?_
 refine VG (VI (light_idx k Z Z Z Z Z hk ye) ?_)
 refine xdv ?_
 refine xfq ?_
 refine xdv ?_
 exact CR (Ret.tmp 6 Z Z Imp.nil.ent ⟨by rw [stepOf, if_neg ye, hk, Int.toNat_natCast, hm]; rfl, Z⟩)
theorem rprev_spec (h : RwIn memC 2 Fr w a c.ms) (hl : c.ms.length ≤ 1000000) (n : Int) : Tri Tryz.prog 109 [.agg (c.cells a cap).toArray, .int .i64 n] Fr w [] (fun v L => v = .int .i64 (prevOf c n) ∧ L = []) := by
 refine TF 8 Tryz.func109 Z yn tabOk Z Z ?_
 refine CS (CG (VG (VB (vs := c.cells a cap) Z fun b => ?_)))
 refine zny ?_
 refine VG (VV (fun Fr w hF hs hS => rstep_spec Fr w (h.of hF hs) hl n (-1) yy yy) Z ?_)
 refine xdj ?_
 exact CR (Ret.tmp 4 Z Z Imp.nil.ent ⟨by rw [stepOf_prev], Z⟩)
theorem rnext1_spec (h : RwIn memC 2 Fr w a c.ms) (hl : c.ms.length ≤ 1000000) (n : Int) : Tri Tryz.prog 110 [.agg (c.cells a cap).toArray, .int .i64 n] Fr w [] (fun v L => v = .int .i64 (nextOf c n) ∧ L = []) := by
 refine TF 8 Tryz.func110 Z yn tabOk Z Z ?_
 refine CS (CG (VG (VB (vs := c.cells a cap) Z fun b => ?_)))
 refine zny ?_
 refine VG (VV (fun Fr w hF hs hS => rstep_spec Fr w (h.of hF hs) hl n 1 yy yy) Z ?_)
 refine xdj ?_
 exact CR (Ret.tmp 4 Z Z Imp.nil.ent ⟨by rw [stepOf_next], Z⟩)
theorem rleaves_spec (h : RwIn memC 2 Fr w a c.ms) (hl : c.ms.length ≤ 1000000) (n : Int) : Tri Tryz.prog 214 [.agg (c.cells a cap).toArray, .int .i64 n] Fr w [] (fun v L => v = .int .i64 (leavesM c n) ∧ L = []) := by
 refine TF 21 Tryz.func214 Z yn tabOk Z Z ?_
 refine CS (CG (VG (VB (vs := c.cells a cap) Z fun b => ?_)))
 refine zny ?_
 refine xkm ?_
 refine xdv ?_
 by_cases h1 : chE c = 0
 rotate_left
 ·refine VG (VY 8 true Z ycs ?_)
  refine zpp ?_
  refine xdv ?_
  exact CR (Ret.tmp 4 Z Z Imp.nil.ent ⟨by rw [leavesM, if_pos (.inl h1)], Z⟩)
 refine VG (VY 8 false Z yct ?_)
 refine xdv ?_
 refine CE (i := c.epoch) (j := 1099511627776) Z (fun h2 => ?_) (fun h2 => CK ?_)
 ·refine xdv ?_
  exact CR (Ret.tmp 4 Z Z Imp.nil.ent ⟨by rw [leavesM, if_pos (.inr h2)], Z⟩)
 refine xdv ?_
 refine xfj ?_
 refine xkl ?_
 refine xdv ?_
 refine CP (p := placeOf c.ms n < 0) Z (fun h3 => ?_) (fun h3 => CK ?_)
 ·refine xdv ?_
  exact CR (Ret.tmp 4 Z Z Imp.nil.ent ⟨by rw [leavesM, if_neg ye, if_pos h3], Z⟩)
 refine xdv ?_
 refine CP (p := (c.ms.length : Int) < 2) Z (fun h4 => ?_) (fun h4 => CK ?_)
 ·refine xdv ?_
  exact CR (Ret.tmp 4 Z Z Imp.nil.ent ⟨by rw [leavesM, if_neg ye, if_neg h3, if_pos ye], Z⟩)
 ·refine xdv ?_
  exact CR (Ret.tmp 4 Z Z Imp.nil.ent ⟨by rw [leavesM, if_neg ye, if_neg h3, if_neg ye], Z⟩)
theorem rwith_spec (h : RwIn memC 2 Fr w a c.ms) (hl : c.ms.length ≤ 1000) (n : Int) : Tri Tryz.prog 174 [.agg (c.cells a cap).toArray, .int .i64 n] Fr w [] (chR (withM c n)) := by
 refine TF 46 Tryz.func174 Z yn tabOk Z Z ?_
 refine CS (CG (VG (VB (vs := c.cells a cap) Z fun b => VG (VO.alloc Z fun d => VG (VN ?_)))))
 refine CS (CS ?_)
 refine VC.meetS (σ := Bool) (fun g => [(1, .int .i64 n), (2, pV b), (4, pV d), (22, .bool g)]) (fun _ => [pt d [.int .i64 0, .slice none 0 0, .int .i64 0] chT, pt b (c.cells a cap) chT]) (fun g => g = true ↔ (chE c ≠ 0 ∨ c.epoch = 1099511627776 ∨ n < 0 ∨ 5 < n)) ?_ ?_
 ·refine CG ?_
  refine xft ?_
  refine VG (VV (fun Fr w hF hs hS => rchk_spec Fr w (h.of hF hs) ye) Z ?_)
  refine xfp ?_
  have fin : ∀ {E : Env} {g : Bool}, Vg.look E 1 = some (.int .i64 n) → Vg.look E 2 = some (.pointer (some ⟨b, 0, none⟩)) → Vg.look E 4 = some (.pointer (some ⟨d, 0, none⟩)) → Vg.look E 22 = some (.bool g) → Sub [(1, .int .i64 n), (2, pV b), (4, pV d), (22, .bool g)] E := fun h0 h1 h2 h3 => SC h0 (SC h1 (SC h2 (SC h3 (SN _))))
  by_cases h1 : chE c = 0
  rotate_left
  ·refine VG (VY 10 true Z ycs ?_)
   refine xfp ?_
   refine VG (VY 15 true Z Z ?_)
   refine xfp ?_
   refine xeg ?_
   refine xfp ?_
   exact ⟨true, ⟨fun _ => .inl h1, fun _ => rfl⟩, fin Z Z Z Z, ER⟩
  refine VG (VY 10 false Z yct ?_)
  refine xfp ?_
  by_cases h2 : c.epoch = 1099511627776
  ·refine VG (VY 15 true Z (by rw [beq_iff_eq]; exact h2) ?_)
   refine xfp ?_
   refine xeg ?_
   refine xfp ?_
   exact ⟨true, ⟨fun _ => .inr (.inl h2), fun _ => rfl⟩, fin Z Z Z Z, ER⟩
  refine VG (VY 15 false Z (by rw [beq_eq_false_iff_ne]; exact h2) ?_)
  refine xfp ?_
  by_cases h3 : n < 0
  ·refine VG (VY 19 true Z (DT h3) ?_)
   refine xfp ?_
   exact ⟨true, ⟨fun _ => .inr (.inr (.inl h3)), fun _ => rfl⟩, fin Z Z Z Z, ER⟩
  refine VG (VY 19 false Z (DF h3) ?_)
  refine xfp ?_
  exact ⟨_, ⟨fun g => by have := of_decide_eq_true g; omega, fun g => DT ye⟩, fin Z Z Z Z, ER⟩
 rintro g hg
 refine CC Z (fun h1 => ?_) (fun h1 => CK ?_)
 ·have hb := hg.1 h1
  refine xgw ?_
  refine xju ?_
  refine xjv ?_
  refine xkn ?_
  exact CR (Ret.cellTmp 4 5 Z Z Z (RdL.many (ds := chZ.cells none 0) 0 Z Z) Z (Imp.slNil Imp.nil).ent ⟨none, 0, by rw [withM, if_pos hb], by rw [withM, if_pos hb]; rfl⟩)
 have hb : ¬ (chE c ≠ 0 ∨ c.epoch = 1099511627776 ∨ n < 0 ∨ 5 < n) := fun k => by rw [hg.2 k] at h1; cases h1
 refine xkn ?_
 refine xft ?_
 refine VG (VV (fun Fr w hF hs hS => rat_spec Fr w (h.of hF hs) ye n) Z ?_)
 refine xkn ?_
 refine CP (p := 0 ≤ placeOf c.ms n) Z (fun h2 => ?_) (fun h2 => CK ?_)
 ·refine xgw ?_
  refine xju ?_
  refine xjv ?_
  refine xkn ?_
  exact CR (Ret.cellTmp 4 5 Z Z Z (RdL.many (ds := chZ.cells none 0) 0 Z Z) Z (Imp.slNil Imp.nil).ent ⟨none, 0, by rw [withM, if_neg hb, if_pos h2], by rw [withM, if_neg hb, if_pos h2]; rfl⟩)
 have hh := chOk_head (c := c) (chE_ok.1 ye)
 have hlen : (c.ms ++ [(n, c.epoch + 1)]).length = c.ms.length + 1 := by simp
 have hfl : flat memC (c.ms ++ [(n, c.epoch + 1)]) = flat memC c.ms ++ memC (n, c.epoch + 1) := by simp [flat_append, flat_cons, flat_nil]
 have hwm : withM c n = (⟨c.epoch + 1, c.ms ++ [(n, c.epoch + 1)], c.drain⟩, 0) := by rw [withM, if_neg hb, if_neg h2]
 refine CS ?_
 refine VC.meetS (σ := Option Addr × Nat) (fun x => [(1, .int .i64 n), (2, pV b), (4, pV d), (6, .slice x.1 (c.ms ++ [(n, c.epoch + 1)]).length x.2)]) (fun x => slH memT 2 x.1 (c.ms ++ [(n, c.epoch + 1)]).length x.2 (flat memC (c.ms ++ [(n, c.epoch + 1)])) :: [pt d [.int .i64 0, .slice none 0 0, .int .i64 0] chT, pt b (c.cells a cap) chT]) (fun _ => True) ?_ ?_
 ·refine CD (ts 0 2 (ts 3 5 (.two 2 8 (.only 8 (.only 9 (.take 10 .nil))) (.only 2 (.only 9 (.take 10 .nil)))))) yn yq ?_
  refine xgg ?_
  refine xdq ?_
  refine VA.go (AI Z (LB (pv := [(0, .int .i64 n), (1, .int .i64 (c.epoch + 1))]) (memC (n, c.epoch + 1)) Z Z Z yn Z) ?_)
  refine VA.ent (L' := slH memT 2 none 0 0 [] :: [pt d [.int .i64 0, .slice none 0 0, .int .i64 0] chT, pt b (c.cells a cap) chT]) (Imp.slNil Imp.refl).ent ?_
  refine VA.go (VA.two Z Z Z Z Z (OpT.append (m := c.ms.length) (news := flat memC c.ms) 0 Z Z Z Z Z Z Z (RwIn.row memC_len h) (flat_all memC_one _) ybj ye)
   rfl rfl rfl (OpT.buildSlice (n := 1) (pv := [(0, .agg (memC (n, c.epoch + 1)).toArray)]) (cells := memC (n, c.epoch + 1)) rfl rfl rfl rfl yy (fill_one rfl rfl rfl)) ?_ ?_ ?_ ?_)
  ·rintro v L' ⟨a1, c1, rfl, hc1, rfl⟩
   exact yr
  ·rintro v L' ⟨nb, rfl, rfl⟩
   exact yr
  ·rintro v L' ⟨a1, c1, rfl, hc1, rfl⟩
   rw [Nat.zero_add c.ms.length, List.nil_append]
   refine VA.go (AO (OpT.buildSlice (n := 1) (pv := [(0, .agg (memC (n, c.epoch + 1)).toArray)]) (cells := memC (n, c.epoch + 1)) Z Z Z Z yy (fill_one Z Z Z)) Z ?_ ?_)
   ·rintro v L' ⟨nb, rfl, rfl⟩
    exact yr
   rintro v L' ⟨nb, rfl, rfl⟩
   refine VA.go (AO (OpT.append (m := 1) (news := memC (n, c.epoch + 1)) 1 Z Z Z Z Z Z Z (RdRow.pt 0 Z Z Z) Z ycu ye) Z ?_ ?_)
   ·rintro v L' ⟨a2, c2, rfl, hc2, rfl⟩
    exact yr
   rintro v L' ⟨a2, c2, rfl, hc2, rfl⟩
   refine xem ?_
   exact xna
  ·rintro v L' ⟨nb, rfl, rfl⟩
   refine VA.go (AO (OpT.append (m := c.ms.length) (news := flat memC c.ms) 1 Z Z Z Z Z Z Z (RwIn.row memC_len h) (flat_all memC_one _) ybj ye) Z ?_ ?_)
   ·rintro v L' ⟨a1, c1, rfl, hc1, rfl⟩
    exact yr
   rintro v L' ⟨a1, c1, rfl, hc1, rfl⟩
   rw [Nat.zero_add c.ms.length, List.nil_append]
   refine VA.go (AO (OpT.append (m := 1) (news := memC (n, c.epoch + 1)) 0 Z Z Z Z Z Z Z (RdRow.pt 1 Z Z Z) Z ycu ye) Z ?_ ?_)
   ·rintro v L' ⟨a2, c2, rfl, hc2, rfl⟩
    exact yr
   rintro v L' ⟨a2, c2, rfl, hc2, rfl⟩
   refine xem ?_
   exact xna
 rintro ⟨a2, c2⟩ -
 dsimp only
 refine xgw ?_
 refine xfn ?_
 refine xds ?_
 refine xfn ?_
 refine VG (VI (LB (pv := [(0, .int .i64 (c.epoch + 1)), (1, .slice a2 (c.ms ++ [(n, c.epoch + 1)]).length c2), (2, .int .i64 c.drain)]) ((⟨c.epoch + 1, c.ms ++ [(n, c.epoch + 1)], c.drain⟩ : ChM).cells a2 c2) Z Z Z yn Z) ?_)
 refine VG (VT (vs := (⟨c.epoch + 1, c.ms ++ [(n, c.epoch + 1)], c.drain⟩ : ChM).cells a2 c2) (cs' := (⟨c.epoch + 1, c.ms ++ [(n, c.epoch + 1)], c.drain⟩ : ChM).cells a2 c2) 1 Z Z Z Z (NR _) Z Z Z ?_)
 refine xkn ?_
 exact CR (Ret.cellTmp 4 5 Z Z Z (RdL.many (ds := (⟨c.epoch + 1, c.ms ++ [(n, c.epoch + 1)], c.drain⟩ : ChM).cells a2 c2) 1 Z Z) Z (IP 0 Z Imp.nil).ent ⟨a2, c2, by rw [hwm], by rw [hwm]⟩)
theorem leaves_ok {n : Int} (h : leavesM c n = 0) : chOk c = true ∧ c.epoch ≠ 1099511627776 := by
 unfold leavesM at h
 by_cases h1 : chE c ≠ 0 ∨ c.epoch = 1099511627776
 ·rw [if_pos h1] at h; cases h
 ·exact ⟨chE_ok.1 ye, by omega⟩
theorem rwithout_spec (h : RwIn memC 2 Fr w a c.ms) (hl : c.ms.length ≤ 1000) (n : Int) : Tri Tryz.prog 175 [.agg (c.cells a cap).toArray, .int .i64 n] Fr w [] (chR (withoutM c n)) := by
 refine TF 53 Tryz.func175 Z yn tabOk Z Z ?_
 refine CS (CG (VG (VB (vs := c.cells a cap) Z fun b => VG (VO.alloc Z fun d => ?_))))
 refine xkn ?_
 refine xft ?_
 refine xnb ?_
 refine xkn ?_
 refine VC.condNE (i := leavesM c n) (j := 0) Z (fun h1 => ?_) (fun h1 => CK ?_)
 ·refine xgw ?_
  refine xju ?_
  refine xkn ?_
  refine xjv ?_
  refine xkn ?_
  exact CR (Ret.cellTmp 4 5 Z Z Z (RdL.many (ds := chZ.cells none 0) 0 Z Z) Z (Imp.slNil Imp.nil).ent ⟨none, 0, by rw [withoutM, if_pos h1], by rw [withoutM, if_pos h1]; rfl⟩)
 obtain ⟨hok, hne⟩ := leaves_ok (c := c) (n := n) h1
 have hh := chOk_head hok
 have h1' : ¬ leavesM c n ≠ 0 := fun k => k h1
 refine xgw ?_
 refine xfp ?_
 refine xds ?_
 refine xfp ?_
 refine VG (VI (LB (pv := [(0, .int .i64 (c.epoch + 1)), (2, .int .i64 c.drain)]) ((⟨c.epoch + 1, [], c.drain⟩ : ChM).cells none 0) Z Z Z yn Z) ?_)
 refine VG (VO.alloc Z fun e => VG (VT (vs := (⟨c.epoch + 1, [], c.drain⟩ : ChM).cells none 0) (cs' := (⟨c.epoch + 1, [], c.drain⟩ : ChM).cells none 0) 0 Z Z Z Z (NR _) Z Z Z (VG (VN ?_))))
 show VC _ _ _ _ _
 obtain ⟨p, hp⟩ : ∃ p : MemM → Bool, p = fun m => !decide (m.1 = n) := ⟨_, rfl⟩
 refine CS ?_
 refine VC.meetS (σ := Option Addr × Nat) (fun x => [(1, .int .i64 n), (2, pV b), (4, pV d), (7, pV e)]) (fun x => [slH memT 2 x.1 (c.ms.filter p).length x.2 (flat memC (c.ms.filter p)), pt e ((⟨c.epoch + 1, c.ms.filter p, c.drain⟩ : ChM).cells x.1 x.2) chT, pt d [.int .i64 0, .slice none 0 0, .int .i64 0] chT, pt b (c.cells a cap) chT]) (fun _ => True) ?_ ?_
 ·refine xdz ?_
  show VC _ _ _ _ _
  refine xje ?_
  refine VC.loop (σ := Nat × Option Addr × Nat) (fun x => [(1, .int .i64 n), (2, pV b), (4, pV d), (7, pV e), (8, .int .i64 x.1)]) (fun x => [slH memT 2 x.2.1 ((c.ms.take x.1).filter p).length x.2.2 (flat memC ((c.ms.take x.1).filter p)), pt e ((⟨c.epoch + 1, (c.ms.take x.1).filter p, c.drain⟩ : ChM).cells x.2.1 x.2.2) chT, pt d [.int .i64 0, .slice none 0 0, .int .i64 0] chT, pt b (c.cells a cap) chT]) (fun x => x.1 ≤ c.ms.length) (fun x => c.ms.length - x.1) (0, none, 0)
   (Nat.zero_le _) sbZ (Imp.slNil (pkZ [0, 0, 0])).ent ?_
  rintro ⟨i, sa, sc⟩ hi
  dsimp only at hi ⊢
  refine xkg ?_
  refine CP (p := (i : Int) < (c.ms.length : Int)) Z (fun h2 => CK ?_) (fun h2 => CX ?_)
  rotate_left
  ·have : i = c.ms.length := by omega
   subst this
   rw [List.take_length]
   exact ⟨(sa, sc), trivial, sbZ, ER⟩
  have hi2 : i < c.ms.length := by omega
  obtain ⟨m, hm⟩ : ∃ m, c.ms[i]? = some m := ⟨_, GE hi2⟩
  have htk : c.ms.take (i + 1) = c.ms.take i ++ [m] := by rw [List.take_add_one, hm]; rfl
  have hfl := List.length_filter_le p (c.ms.take i)
  rw [List.length_take] at hfl
  obtain ⟨mb, mo, hma, ra, rc⟩ := RwIn.rd (X := ⟨Tryz.prog, tab, tabOk, 53, Fr, w⟩) h hm
  have next : ∀ {X : Cx} {E : Env} {L : List HP} {sa : Option Addr} {sc : Nat}, Vg.look E 1 = some (.int .i64 n) → Vg.look E 2 = some (.pointer (some ⟨b, 0, none⟩)) → Vg.look E 4 = some (.pointer (some ⟨d, 0, none⟩)) → Vg.look E 7 = some (.pointer (some ⟨e, 0, none⟩)) → Vg.look E 8 = some (.int .i64 ((i : Int) + 1)) →
    Ent X L [slH memT 2 sa ((c.ms.take (i + 1)).filter p).length sc (flat memC ((c.ms.take (i + 1)).filter p)), pt e ((⟨c.epoch + 1, (c.ms.take (i + 1)).filter p, c.drain⟩ : ChM).cells sa sc) chT, pt d [.int .i64 0, .slice none 0 0, .int .i64 0] chT, pt b (c.cells a cap) chT] →
    ∃ x : Nat × Option Addr × Nat, x.1 ≤ c.ms.length ∧ c.ms.length - x.1 < c.ms.length - i ∧ Sub [(1, .int .i64 n), (2, pV b), (4, pV d), (7, pV e), (8, .int .i64 x.1)] E ∧ Ent X L [slH memT 2 x.2.1 ((c.ms.take x.1).filter p).length x.2.2 (flat memC ((c.ms.take x.1).filter p)), pt e ((⟨c.epoch + 1, (c.ms.take x.1).filter p, c.drain⟩ : ChM).cells x.2.1 x.2.2) chT, pt d [.int .i64 0, .slice none 0 0, .int .i64 0] chT, pt b (c.cells a cap) chT] := fun {X E L sa sc} k1 k2 k3 k4 k5 k6 =>
   ⟨(i + 1, sa, sc), by dsimp only; omega, by dsimp only; omega, SC k1 (SC k2 (SC k3 (SC k4 (SC k5 (SN _))))), k6⟩
  subst hma
  refine CS ?_
  refine VC.meetS (σ := Option Addr × Nat) (fun x => [(1, .int .i64 n), (2, pV b), (4, pV d), (7, pV e), (8, .int .i64 i)]) (fun x => [slH memT 2 x.1 ((c.ms.take (i + 1)).filter p).length x.2 (flat memC ((c.ms.take (i + 1)).filter p)), pt e ((⟨c.epoch + 1, (c.ms.take (i + 1)).filter p, c.drain⟩ : ChM).cells x.1 x.2) chT, pt d [.int .i64 0, .slice none 0 0, .int .i64 0] chT, pt b (c.cells (some ⟨mb, mo, none⟩) cap) chT]) (fun _ => True) ?_ ?_
  rotate_left
  ·rintro ⟨ra1, rc1⟩ -
   refine zoc ?_
   exact next Z Z Z Z Z ER
  refine xje ?_
  refine xkg ?_
  refine xff ?_
  refine xkg ?_
  refine xfq ?_
  refine xkg ?_
  refine VC.condNE (i := m.1) (j := n) Z (fun h3 => ?_) (fun h3 => CK ?_)
  rotate_left
  ·have hf : (c.ms.take (i + 1)).filter p = (c.ms.take i).filter p := by rw [htk, List.filter_append]; simp [hp, h3]
   exact ⟨(sa, sc), trivial, sbZ, by rw [hf]; exact ER⟩
  have hf : (c.ms.take (i + 1)).filter p = (c.ms.take i).filter p ++ [m] := by rw [htk, List.filter_append]; simp [hp, h3]
  have hff : flat memC ((c.ms.take (i + 1)).filter p) = flat memC ((c.ms.take i).filter p) ++ memC m := by rw [hf]; simp [flat_append, flat_cons, flat_nil]
  have hfn : ((c.ms.take (i + 1)).filter p).length = ((c.ms.take i).filter p).length + 1 := by rw [hf]; simp
  refine CD (ts 0 7 (.only 7 (.only 8 (.take 9 (.only 10 .nil))))) yn yq ?_
  refine xej ?_
  refine xgv ?_
  refine VA.go (VA.load Z Z Z (ra _ _ Z Z) ?_)
  refine VA.go (AO (OpT.buildSlice (n := 1) (pv := [(0, .agg (memC m).toArray)]) (cells := memC m) Z Z Z Z yy (fill_one Z Z Z)) Z ?_ ?_)
  ·rintro v L' ⟨nb, rfl, rfl⟩
   exact ycv
  rintro v L' ⟨nb, rfl, rfl⟩
  refine VA.go (AO (OpT.append (m := 1) (news := memC m) 1 Z Z Z Z Z Z Z (RdRow.pt 0 Z Z Z) Z (by show (((c.ms.take i).filter p).length + 1) * 16 ≤ _; omega) (by show ((c.ms.take i).filter p).length + 1 ≤ _; omega)) Z ?_ ?_)
  ·rintro v L' ⟨a2, c2, rfl, hc2, rfl⟩
   exact ycv
  rintro v L' ⟨a2, c2, rfl, hc2, rfl⟩
  refine xel ?_
  refine VA.go (VA.st 2 (cs' := (⟨c.epoch + 1, (c.ms.take (i + 1)).filter p, c.drain⟩ : ChM).cells a2 c2) Z Z Z Z Z yaj (by unfold ChM.cells; rw [hfn]; rfl) Z ycv (VA.go (AN ?_)))
  exact ⟨(a2, c2), trivial, sbZ, by rw [hfn, hff]; exact Imp.ent (pkZ [0, 1, 1, 1])⟩
 rintro ⟨sa, sc⟩ -
 dsimp only
 have hwm : withoutM c n = (⟨c.epoch + 1, c.ms.filter p, if c.drain = n then -1 else c.drain⟩, 0) := by rw [withoutM, if_neg h1', hp]
 refine CS ?_
 refine VC.meetS (σ := Unit) (fun x => [(4, pV d), (7, pV e)]) (fun x => [slH memT 2 sa (c.ms.filter p).length sc (flat memC (c.ms.filter p)), pt e ((⟨c.epoch + 1, c.ms.filter p, if c.drain = n then -1 else c.drain⟩ : ChM).cells sa sc) chT, pt d [.int .i64 0, .slice none 0 0, .int .i64 0] chT]) (fun _ => True) ?_ ?_
 ·refine xkg ?_
  refine CE (i := c.drain) (j := n) Z (fun h2 => ?_) (fun h2 => CK ?_)
  ·refine CG ?_
   refine xkn ?_
   refine VG (VO.st 1 (cs' := (⟨c.epoch + 1, c.ms.filter p, -1⟩ : ChM).cells sa sc) Z Z Z Z yai Z Z (VG (VN ?_)))
   exact ⟨(), trivial, sbZ, by rw [if_pos h2]; exact (pkZ [0, 0, 0]).ent⟩
  ·exact ⟨(), trivial, sbZ, by rw [if_neg h2]; exact (pkZ [0, 0, 0]).ent⟩
 rintro _ -
 obtain ⟨dd, hdd⟩ : ∃ dd, dd = if c.drain = n then -1 else c.drain := ⟨_, rfl⟩
 rw [← hdd] at hwm ⊢
 refine xgw ?_
 refine VG (VL 1 ((⟨c.epoch + 1, c.ms.filter p, dd⟩ : ChM).cells sa sc) Z Z Z Z ?_)
 refine VG (VT (vs := (⟨c.epoch + 1, c.ms.filter p, dd⟩ : ChM).cells sa sc) (cs' := (⟨c.epoch + 1, c.ms.filter p, dd⟩ : ChM).cells sa sc) 2 Z Z Z Z (NR _) Z Z Z ?_)
 refine xkn ?_
 exact CR (Ret.cellTmp 4 5 Z Z Z (RdL.many (ds := (⟨c.epoch + 1, c.ms.filter p, dd⟩ : ChM).cells sa sc) 2 Z Z) Z (IP 0 Z Imp.nil).ent ⟨sa, sc, by rw [hwm], by rw [hwm]⟩)
theorem rdrain_spec (h : RwIn memC 2 Fr w a c.ms) (hl : c.ms.length ≤ 1000) (n : Int) : Tri Tryz.prog 176 [.agg (c.cells a cap).toArray, .int .i64 n] Fr w [] (chR (drainM c n)) := by
 refine TF 26 Tryz.func176 Z yn tabOk Z Z ?_
 refine CS (CG (VG (VB (vs := c.cells a cap) Z fun b => VG (VO.alloc Z fun d => ?_))))
 refine xkn ?_
 refine xft ?_
 refine xnb ?_
 refine xkn ?_
 refine VC.condNE (i := leavesM c n) (j := 0) Z (fun h1 => ?_) (fun h1 => CK ?_)
 ·refine xgw ?_
  refine xju ?_
  refine xkn ?_
  refine xjv ?_
  refine xkn ?_
  exact CR (Ret.cellTmp 4 5 Z Z Z (RdL.many (ds := chZ.cells none 0) 0 Z Z) Z (Imp.slNil Imp.nil).ent ⟨none, 0, by rw [drainM, if_pos h1], by rw [drainM, if_pos h1]; rfl⟩)
 obtain ⟨hok, hne⟩ := leaves_ok (c := c) (n := n) h1
 have hh := chOk_head hok
 have h1' : ¬ leavesM c n ≠ 0 := fun k => k h1
 refine xfp ?_
 refine VC.condNE (i := c.drain) (j := -1) Z (fun h2 => ?_) (fun h2 => CK ?_)
 ·refine xgw ?_
  refine xju ?_
  refine xjv ?_
  refine xkn ?_
  exact CR (Ret.cellTmp 4 5 Z Z Z (RdL.many (ds := chZ.cells none 0) 0 Z Z) Z (Imp.slNil Imp.nil).ent ⟨none, 0, by rw [drainM, if_neg h1', if_pos h2], by rw [drainM, if_neg h1', if_pos h2]; rfl⟩)
 have hwm : drainM c n = (⟨c.epoch + 1, c.ms, n⟩, 0) := by rw [drainM, if_neg h1', if_neg (fun k => k h2)]
 refine CS (CD (ts 0 5 (.take 6 (.only 5 (.take 7 (.only 8 (.take 9 .nil)))))) yn yq ?_)
 refine xgg ?_
 refine xdq ?_
 refine xgg ?_
 refine VA.ent (L' := [slH memT 2 none 0 0 [], pt d [.int .i64 0, .slice none 0 0, .int .i64 0] chT, pt b (c.cells a cap) chT]) (Imp.slNil Imp.refl).ent ?_
 refine VA.go (AO (OpT.append (m := c.ms.length) (news := flat memC c.ms) 0 Z Z Z Z Z Z Z (RwIn.row memC_len h) (flat_all memC_one _) ybj ye) Z ?_ ?_)
 ·rintro v L' ⟨a1, c1, rfl, hc1, rfl⟩
  exact yr
 rintro v L' ⟨a1, c1, rfl, hc1, rfl⟩
 rw [Nat.zero_add c.ms.length, List.nil_append]
 refine VA.go (AI Z (LB (pv := [(0, .int .i64 (c.epoch + 1)), (1, .slice a1 c.ms.length c1), (2, .int .i64 n)]) ((⟨c.epoch + 1, c.ms, n⟩ : ChM).cells a1 c1) Z Z Z yn Z) ?_)
 refine VA.go (AT (vs := (⟨c.epoch + 1, c.ms, n⟩ : ChM).cells a1 c1) (cs' := (⟨c.epoch + 1, c.ms, n⟩ : ChM).cells a1 c1) 1 Z Z Z Z Z (NR _) Z Z Z yr ?_)
 refine xdr ?_
 show VC _ _ _ _ _
 exact CR (Ret.cellTmp 4 5 Z Z Z (RdL.many (ds := (⟨c.epoch + 1, c.ms, n⟩ : ChM).cells a1 c1) 1 Z Z) Z (IP 0 Z Imp.nil).ent ⟨a1, c1, by rw [hwm], by rw [hwm]; rfl⟩)
end
end Nd
namespace Vg
open Go Go.ChangeShapes Go.WideShapes Go.ChangeAt Go.RowKit
theorem trodAll_below {H : Type} {enc : TypeId × Value → H} {P : Program} (hl : laidOutB P = true) {W W' : World} (hb : Below W.heap.size W W') :
  ∀ {ts : List TypeId} {vs : List Value} {ds : List (DataW H)} {ps : List MemPlace}, (∀ t ∈ ts, P.readableRec t = true ∧ t < P.types.size) →
   DataW.TrodAll enc P W 0 (fun _ => true) true ts vs ds ps → DataW.TrodAll enc P W' 0 (fun b => decide (b < W.heap.size)) true ts vs ds ps
 | [], vs, ds, ps, _, h => by
  obtain ⟨rfl, rfl, rfl⟩ := trodAll_nil h
  exact trodAll_mk0
 | t :: ts, vs, ds, ps, ht, h => by
  obtain ⟨v, vs', d, ds', p, q, rfl, rfl, rfl, h0, r0⟩ := trodAll_cons h
  have lt0 : ∀ x ∈ p, x.block < W.heap.size := by obtain ⟨m, hm⟩ := h0; exact DataW.trod_lt m _ _ _ hm
  have h1 := ht t ya
  exact trodAll_cons_mk (Below.trod hl h1.1 h1.2 h0 hb lt0) (trodAll_below hl hb (fun t h => ht t yd) r0)
theorem trodAll_length {H : Type} {enc : TypeId × Value → H} {P : Program} {W : World} {b : Nat} {sp : Nat → Bool} {hd : Bool} :
  ∀ {ts : List TypeId} {vs : List Value} {ds : List (DataW H)} {ps : List MemPlace}, DataW.TrodAll enc P W b sp hd ts vs ds ps → ds.length = ts.length
 | [], vs, ds, ps, h => by
  obtain ⟨rfl, rfl, rfl⟩ := trodAll_nil h
  rfl
 | t :: ts, vs, ds, ps, h => by
  obtain ⟨v, vs', d, ds', p, q, rfl, rfl, rfl, h0, r0⟩ := trodAll_cons h
  simp [trodAll_length r0]
theorem law_post {H : Type} {enc : TypeId × Value → H} {P : Program} {f : Func} {s : ChangeSpec} (hl : laidOutB P = true) (hts : ∀ t ∈ f.params.toList, P.readableRec t = true ∧ t < P.types.size)
  (hv : s.vars = []) {tb : TypeId} (hres : f.resultTypes = #[tb]) (hbool : P.underlying tb = some .bool)
  (hfn : ∀ ds : List (DataW H), ds.length = f.params.toList.length → s.fn H (ds ++ []) = { results := [.lit (.bool true)], args := ds })
  {W W' : World} {args : Array Value} {ds gs : List (DataW H)} {before : List MemPlace} (hW : DataW.Whole enc P f.params.toList s.vars false W args.toList ds gs before) (bel : Below W.heap.size W W') :
  s.post enc P f false true false false W args (.bool true) W' := by
 have hW' := hW
 obtain ⟨p, q, hA, hV, rfl, _, _⟩ := hW
 rw [hv] at hV
 obtain ⟨rfl, rfl⟩ := trodVars_none hV
 have e := hfn ds (trodAll_length hA)
 refine ⟨ds, [], p ++ [], [], p, [], hW', ?_, ?_, ?_, bel.frame _, fun h => by cases h⟩
 ·rw [e, hres]; exact trodAll_mk1 (shut_bool hbool _)
 ·rw [e]; exact trodAll_below hl bel hts hA
 ·rw [e, hv]; rfl
theorem law_returns {H : Type} {enc : TypeId × Value → H} {C : Checked} {os : Os} {f : FuncId} {fn : Func} {s : ChangeSpec} {conds : List PathCond}
  (own : ownKnob C.prog.godebug = none) (started : os.Started) (noInit : C.prog.inits.idxOf? f = none) (hfn : C.prog.funcs[f]? = some fn)
  (witness : ∃ (w : World) (tape : Tape) (i : Input), w.os = os ∧ (w.forCall tape i).Shaped C.prog ∧ i.vars = [] ∧ Input.okWide C.prog (w.forCall tape i) .any w.heap.size f i ∧
   s.pre6 enc C.prog fn conds false (w.forCall tape i).memory i.args ∧ ({} : Assume).holds C.prog (lone (Frame.enter C.prog f i.args .normal) [] (w.forCall tape i)))
  (hl : laidOutB C.prog = true) (hts : ∀ t ∈ fn.params.toList, C.prog.readableRec t = true ∧ t < C.prog.types.size)
  (hv : s.vars = []) {tb : TypeId} (hres : fn.resultTypes = #[tb]) (hbool : C.prog.underlying tb = some .bool)
  (hs : ∀ ds : List (DataW H), ds.length = fn.params.toList.length → s.fn H (ds ++ []) = { results := [.lit (.bool true)], args := ds })
  (walk : ∀ (W : World) (base : Nat) (args : Array Value) (ds : List (DataW H)) (ps : List MemPlace),
   (∀ (j : Nat) t v, fn.params[j]? = some t → args[j]? = some v → Value.okWide C.prog W .any base t v) →
   DataW.TrodAll enc C.prog W 0 (fun _ => true) true fn.params.toList args.toList ds ps → W.noneFrozen ps →
   (DataW.weightsEach C.prog fn.params.toList ds).all (· ≤ reachBytes) = true →
   Tri C.prog f args.toList (fun b => b < W.heap.size) W [] (fun v _ => v = .bool true)) :
  ReturnsInHanded {} C os f .any (s.pre6 enc C.prog fn conds false) (s.post enc C.prog fn false true false false) := by
 refine returnsInHanded_of_change_sized own started noInit hfn witness fun W base args ds gs before hval hW _ hwt _ => ?_
 have hW2 := hW
 obtain ⟨p, q, hA, hV, rfl, hfz, _⟩ := hW2
 rw [hv] at hV
 obtain ⟨rfl, rfl⟩ := trodVars_none hV
 have hvt : s.plain.varTypes C.prog = [] := by simp [ChangeSpec.plain, hv, DataSpec.varTypes]
 rw [hvt] at hwt
 simp only [List.append_nil] at hwt hfz
 have T := walk W base args ds p hval hA hfz hwt
 have := T.calls (fun _ h => h) Sat.nil
 simp only [Array.toArray_toList] at this
 exact Calls.mono this fun e W' ⟨v, L', he, h1, _, hk⟩ => ⟨v, he, by subst h1; exact law_post hl hts hv hres hbool hs hW hk.below⟩
end Vg
namespace Vg
open Go Go.ChangeShapes Go.WideShapes Go.ChangeAt Go.RowKit
section
variable {H : Type} (enc : TypeId × Value → H) (P : Program) (w : World) (base : Nat) (spare : Nat → Bool) (held : Bool)
def Leaf (t : TypeId) (v : Value) : Prop := ∃ fuel x, DataW.trod enc P w base spare held fuel t [v] = some x
def flatFs (rec : TypeId → Option (List TypeId)) : List Field → Nat → Option (List TypeId)
 | [], _ => some []
 | f :: fs, off => if f.offset = off then match rec f.type with
   | some l => if P.cellsOf f.type = l.length then (flatFs rec fs (off + l.length)).map (l ++ ·) else none
   | none => none
  else none
def flatT : Nat → TypeId → Option (List TypeId)
 | 0, _ => none
 | n + 1, t => match P.underlying t with
  | some (.struct fs) => match flatFs P (flatT n) fs.toList 0 with
   | some l => if P.cellsOf t = l.length then some l else none
   | none => none
  | some (.int _) => some [t]
  | some .bool => some [t]
  | some .string => some [t]
  | some (.slice _) => some [t]
  | some (.pointer _) => some [t]
  | _ => none
end
section
variable {H : Type} {enc : TypeId × Value → H} {P : Program} {w : World} {base : Nat} {spare : Nat → Bool} {held : Bool}
theorem Leaf.int {t : TypeId} {v : Value} {k : IntKind} (h : Leaf enc P w base spare held t v) (ht : P.underlying t = some (.int k)) : ∃ n, v = .int k n ∧ (Lit.int k n).wf = true := by
 obtain ⟨fuel, x, h⟩ := h
 obtain ⟨n, e, _, hw⟩ := DataW.trod_int ht h
 exact ⟨n, (List.cons.inj e).1, hw⟩
theorem Leaf.str {t : TypeId} {v : Value} (h : Leaf enc P w base spare held t v) (ht : P.underlying t = some .string) : ∃ s, v = .string s ∧ s.size ≤ maxLen := by
 obtain ⟨fuel, x, h⟩ := h
 obtain ⟨n, e, _, hs⟩ := DataW.trod_string ht h
 exact ⟨n, (List.cons.inj e).1, hs⟩
theorem Leaf.slice {t e : TypeId} {v : Value} (h : Leaf enc P w base spare held t v) (ht : P.underlying t = some (.slice e)) : ∃ a n c, v = .slice a n c := by
 obtain ⟨fuel, x, h⟩ := h
 rcases DataW.trod_slice ht h with ⟨e, _⟩ | ⟨a, len, cap, _, _, _, _, e, _⟩
 ·exact ⟨none, 0, 0, (List.cons.inj e).1⟩
 ·exact ⟨some a, len, cap, (List.cons.inj e).1⟩
theorem flatFs_ok {rec : TypeId → Option (List TypeId)} {cs : List Value} {n : Nat}
  (hrec : ∀ (t : TypeId) (ls : List TypeId), rec t = some ls → ∀ (cs : List Value) x, DataW.trod enc P w base spare held n t cs = some x → cs.length = ls.length ∧ ∀ (i : Nat) (v : Value) (u : TypeId), cs[i]? = some v → ls[i]? = some u → Leaf enc P w base spare held u v) :
  ∀ (fs : List Field) (off : Nat) (ls : List TypeId), flatFs P rec fs off = some ls → (∀ f ∈ fs, ∃ y, DataW.trod enc P w base spare held n f.type ((cs.drop f.offset).take (P.cellsOf f.type)) = some y) →
   ∀ (i : Nat) (v : Value) (u : TypeId), cs[off + i]? = some v → ls[i]? = some u → Leaf enc P w base spare held u v
 | [], off, ls, h, _, i, v, u, _, hu => by
  obtain rfl : ls = [] := by simpa [flatFs] using h.symm
  simp at hu
 | f :: fs, off, ls, h, hf, i, v, u, hv, hu => by
  simp only [flatFs] at h
  split at h
  ·rename_i hoff
   split at h
   ·rename_i l hl
    split at h
    ·rename_i hc
     cases hr : flatFs P rec fs (off + l.length) with
     | none => rw [hr] at h; cases h
     | some ls' =>
      rw [hr] at h
      obtain rfl : l ++ ls' = ls := by simpa using h
      obtain ⟨y, hy⟩ := hf f ya
      obtain ⟨h1, h2⟩ := hrec f.type l hl _ y hy
      by_cases hi : i < l.length
      ·refine h2 i v u ?_ (by rwa [List.getElem?_append_left hi] at hu)
       rw [List.getElem?_take, if_pos ye, List.getElem?_drop, hoff]; exact hv
      ·rw [List.getElem?_append_right ye] at hu
       refine flatFs_ok hrec fs (off + l.length) ls' hr (fun g hg => hf g yj) (i - l.length) v u ?_ hu
       rw [← hv]; congr 1; omega
    ·cases h
   ·cases h
  ·cases h
theorem flatT_ok : ∀ (n : Nat) (t : TypeId) (ls : List TypeId), flatT P n t = some ls → ∀ (fuel : Nat) (cs : List Value) x, DataW.trod enc P w base spare held fuel t cs = some x →
  cs.length = ls.length ∧ ∀ (i : Nat) (v : Value) (u : TypeId), cs[i]? = some v → ls[i]? = some u → Leaf enc P w base spare held u v
 | 0, t, ls, h, _, _, _, _ => by simp [flatT] at h
 | n + 1, t, ls, h, fuel, cs, x, hx => by
  have one : ∀ v, cs = [v] → ls = [t] → cs.length = ls.length ∧ ∀ (i : Nat) (v : Value) (u : TypeId), cs[i]? = some v → ls[i]? = some u → Leaf enc P w base spare held u v := by
   intro v h1 h2
   subst h1; subst h2
   refine ⟨rfl, fun i v' u hv hu => ?_⟩
   match i, hv, hu with
   | 0, hv, hu =>
    obtain rfl := Option.some.inj hv
    obtain rfl := Option.some.inj hu
    exact ⟨fuel, x, hx⟩
   | i + 1, hv, _ => cases hv
  simp only [flatT] at h
  split at h
  ·rename_i fs ht
   cases hr : flatFs P (flatT P n) fs.toList 0 with
   | none => rw [hr] at h; cases h
   | some l =>
    rw [hr] at h
    dsimp only at h
    split at h
    ·rename_i hc
     obtain rfl := Option.some.inj h
     obtain ⟨xs, m, _, _, hl, hlen, hfs⟩ := DataW.trod_struct ht hx
     refine ⟨hl.trans hc, fun i v u hv hu => ?_⟩
     refine flatFs_ok (n := m) (cs := cs) (fun t ls h1 cs x h2 => flatT_ok n t ls h1 m cs x h2) fs.toList 0 l hr (fun f hf => ?_) i v u (by rwa [Nat.zero_add]) hu
     obtain ⟨j, hj⟩ := List.getElem?_of_mem hf
     have hj' : fs[j]? = some f := by simpa using hj
     have hjl : j < xs.length := by
      have := (Array.getElem?_eq_some_iff.1 hj').1
      omega
     exact ⟨xs[j], by rw [hfs j f hj', GE hjl]⟩
    ·cases h
  ·rename_i k ht
   obtain ⟨a, e, _⟩ := DataW.trod_int ht hx
   exact xnc
  ·rename_i ht
   obtain ⟨a, e, _⟩ := DataW.trod_bool ht hx
   exact xnc
  ·rename_i ht
   obtain ⟨a, e, _⟩ := DataW.trod_string ht hx
   exact xnc
  ·rename_i e ht
   rcases DataW.trod_slice ht hx with ⟨e, _⟩ | ⟨_, _, _, _, _, _, _, e, _⟩
   ·exact xnc
   ·exact xnc
  ·rename_i e ht
   rcases DataW.trod_pointer ht hx with ⟨e, _⟩ | ⟨_, _, _, _, _, e, _⟩
   ·exact xnc
   ·exact xnc
  ·cases h
theorem cell_block {w : World} {a : Addr} {v : Value} (h : w.cell? a = some v) : a.block < w.heap.size := by
 unfold World.cell? at h
 cases hb : w.heap[a.block]? with
 | none => simp [hb] at h
 | some o => exact (Array.getElem?_eq_some_iff.1 hb).1
theorem open_rows {α : Type} (cells : α → List Value) (φ : α → Prop) {t e : TypeId} {n : Nat} {ls : List TypeId} (ht : P.underlying t = some (.slice e)) (hf : flatT P n e = some ls) (hce : P.cellsOf e = ls.length) (hpos : 0 < ls.length)
  (hrow : ∀ cs, cs.length = ls.length → (∀ (i : Nat) (v : Value) (u : TypeId), cs[i]? = some v → ls[i]? = some u → Leaf enc P w base spare held u v) → ∃ x, cs = cells x ∧ φ x)
  {fuel : Nat} {v : Value} {x : DataW H × List MemPlace} (h : DataW.trod enc P w base spare held fuel t [v] = some x) :
  ∃ (a : Option Addr) (tc : Nat) (l : List α), v = .slice a l.length tc ∧ (l.length ≤ tc ∧ l.length ≤ maxLen) ∧ (∀ x ∈ l, φ x) ∧ (l ≠ [] → ∃ b off, a = some ⟨b, off, none⟩ ∧ b < w.heap.size ∧ ∀ i x, l[i]? = some x → ∀ j v, (cells x)[j]? = some v → w.cell? ⟨b, off + i * ls.length + j, none⟩ = some v) := by
 rcases Go.Deep.open_slice ht h with ⟨e, _⟩ | ⟨a', len, cap, m, n', D, Pl, e, _, hle, hcm, hm, _, hx⟩
 ·exact ⟨none, 0, [], (List.cons.inj e).1, ⟨Nat.zero_le _, Nat.zero_le _⟩, fun x hx => by simp at hx, fun h => absurd Z h⟩
 ·have hlm : len ≤ m := by rw [hm]; split <;> omega
  rw [hce] at hx
  have key : ∀ i, i < len → ∃ y : α, φ y ∧ (cells y).length = ls.length ∧ ∀ j v, (cells y)[j]? = some v → w.cell? ((a'.add (i * ls.length)).add j) = some v := by
   intro i hi
   obtain ⟨cs', h1, h2⟩ := hx i ye
   obtain ⟨_, hl, hc⟩ := World.cells?_some h1
   obtain ⟨h3, h4⟩ := flatT_ok n _ ls hf _ _ _ h2
   obtain ⟨y, rfl, hy⟩ := hrow cs' h3 h4
   refine ⟨y, hy, h3, fun j v hv => ?_⟩
   have hj : j < ls.length := by have := (List.getElem?_eq_some_iff.1 hv).1; omega
   rw [hc j hj, hv]
  have build : ∀ k, k ≤ len → ∃ l : List α, l.length = k ∧ ∀ i x, l[i]? = some x → φ x ∧ (cells x).length = ls.length ∧ ∀ j v, (cells x)[j]? = some v → w.cell? ((a'.add (i * ls.length)).add j) = some v := by
   intro k
   induction k with
   | zero => intro _; exact ⟨[], rfl, fun i x hx => by simp at hx⟩
   | succ k ih =>
    intro hk
    obtain ⟨l, hl, hall⟩ := ih ye
    obtain ⟨y, hy⟩ := key k ye
    refine ⟨l ++ [y], by simp [hl], fun i x hx => ?_⟩
    by_cases hi : i < l.length
    ·rw [List.getElem?_append_left hi] at hx; exact hall i x hx
    ·rw [List.getElem?_append_right ye] at hx
     have hi2 : i = k := by
      have := (List.getElem?_eq_some_iff.1 hx).1
      simp at this; omega
     subst hi2
     rw [hl, Nat.sub_self] at hx
     obtain rfl := Option.some.inj hx
     exact hy
  obtain ⟨l, hl, hall⟩ := build len (NR _)
  subst hl
  refine ⟨some a', cap, l, (List.cons.inj e).1, ⟨by omega, by omega⟩, fun x hx => ?_, fun hne => ?_⟩
  ·obtain ⟨i, hi⟩ := List.getElem?_of_mem hx
   exact (hall i x hi).1
  obtain ⟨ab, ao, asp⟩ := a'
  cases l with
  | nil => exact absurd rfl hne
  | cons y l =>
   obtain ⟨_, h5, h6⟩ := hall 0 y rfl
   have h0 := h6 0 _ (GE ye)
   have hsp : asp = none := by simpa [Addr.add] using World.cell?_spot h0
   subst hsp
   refine ⟨ab, ao, Z, by simpa [Addr.add] using cell_block h0, fun i x hx j v hv => ?_⟩
   have := (hall i x hx).2.2 j v hv
   rwa [Addr.add_mid, Addr.add_mid] at this
end
end Vg
namespace Adm
open Go Vg Go.ChangeShapes Go.WideShapes Go.ChangeAt Go.RowKit Sched Conf
theorem confFlat : flatT Tryz.prog 3 24 = some [3, 3, 3, 22, 3, 3, 3, 3, 3, 3, 3, 3] := by kernel_rfl
theorem intFlat : flatT Tryz.prog 1 3 = some [3] := by kernel_rfl
theorem wf_byte {a : Int} (w : (Lit.int .u8 a).wf = true) : 0 ≤ a ∧ a ≤ 255 := by
 simp [Lit.wf, IntKind.min, IntKind.max, IntKind.signed, IntKind.bits] at w; omega
section
variable {H : Type} {enc : TypeId × Value → H} {w : World} {base : Nat} {spare : Nat → Bool} {held : Bool}
theorem leaf_ints {v : Value} (h : Leaf enc Tryz.prog w base spare held 22 v) : ∃ a tc l, v = .slice a (l : List Int).length tc ∧ l.length ≤ tc ∧ IntsIn (fun b => b < w.heap.size) w a l := by
 obtain ⟨fuel, x, hf⟩ := h
 obtain ⟨a, tc, l, e, h1, h2, h3⟩ := open_rows (α := Int) (fun x => [.int .i64 x]) (fun _ => True) Tryz.underlying22 intFlat yn yy (fun cs hl hc => by
  match cs, hl, hc with
  | [c], _, hc =>
   obtain ⟨n, rfl, _⟩ := (hc 0 c _ rfl rfl).int Tryz.underlying3
   exact ⟨n, Z, trivial⟩) hf
 refine ⟨a, tc, l, e, h1.1, ⟨fun hne => ?_⟩⟩
 obtain ⟨b, off, h4, h5, h6⟩ := h3 hne
 refine ⟨b, off, h4, h5, fun i v hv => ?_⟩
 have := h6 i v hv 0 _ rfl
 simpa using this
theorem leaf_conf {cs : List Value} (hl : cs.length = 12) (h3 : ∀ (i : Nat) (v : Value) (u : TypeId), cs[i]? = some v → ([3, 3, 3, 22, 3, 3, 3, 3, 3, 3, 3, 3] : List TypeId)[i]? = some u → Leaf enc Tryz.prog w base spare held u v) :
  ∃ (c : ConfM) (a : Option Addr) (cap : Nat), cs = c.cells a cap ∧ c.qs.length ≤ cap ∧ IntsIn (fun b => b < w.heap.size) w a c.qs := by
 match cs, hl, h3 with
 | [c0, c1, c2, c3, c4, c5, c6, c7, c8, c9, c10, c11], _, h3 =>
 obtain ⟨n0, rfl, _⟩ := (h3 0 c0 _ rfl rfl).int Tryz.underlying3
 obtain ⟨n1, rfl, _⟩ := (h3 1 c1 _ rfl rfl).int Tryz.underlying3
 obtain ⟨n2, rfl, _⟩ := (h3 2 c2 _ rfl rfl).int Tryz.underlying3
 obtain ⟨a3, cap3, l3, rfl, hc3, hq3⟩ := leaf_ints (h3 3 c3 _ rfl rfl)
 obtain ⟨n4, rfl, _⟩ := (h3 4 c4 _ rfl rfl).int Tryz.underlying3
 obtain ⟨n5, rfl, _⟩ := (h3 5 c5 _ rfl rfl).int Tryz.underlying3
 obtain ⟨n6, rfl, _⟩ := (h3 6 c6 _ rfl rfl).int Tryz.underlying3
 obtain ⟨n7, rfl, _⟩ := (h3 7 c7 _ rfl rfl).int Tryz.underlying3
 obtain ⟨n8, rfl, _⟩ := (h3 8 c8 _ rfl rfl).int Tryz.underlying3
 obtain ⟨n9, rfl, _⟩ := (h3 9 c9 _ rfl rfl).int Tryz.underlying3
 obtain ⟨n10, rfl, _⟩ := (h3 10 c10 _ rfl rfl).int Tryz.underlying3
 obtain ⟨n11, rfl, _⟩ := (h3 11 c11 _ rfl rfl).int Tryz.underlying3
 exact ⟨⟨n0, n1, n2, l3, n4, n5, n6, n7, n8, n9, n10, n11⟩, a3, cap3, Z, hc3, hq3⟩
theorem okWide_agg {P : Program} {r : Reach} {t : TypeId} {v : Value} {fs : Array Field} (ht : P.underlying t = some (.struct fs)) (h : Value.okWide P w r base t v) : ∃ cs : List Value, v = .agg cs.toArray := by
 unfold Value.okWide at h
 rw [ht] at h
 obtain ⟨cs, h, _⟩ := h
 exact ⟨cs.toList, by rw [h]⟩
theorem open_conf {base0 : Nat} {v : Value} {d : DataW H} {ps : List MemPlace} (hval : Value.okWide Tryz.prog w .any base0 24 v) (h : DataW.Trod enc Tryz.prog w base spare held 24 v d ps) :
  ∃ (c : ConfM) (a : Option Addr) (cap : Nat), v = .agg (c.cells a cap).toArray ∧ c.qs.length ≤ cap ∧ IntsIn (fun b => b < w.heap.size) w a c.qs := by
 obtain ⟨cs, rfl⟩ := okWide_agg Tryz.underlying24 hval
 obtain ⟨fuel, hf⟩ := h
 obtain ⟨h1, h2⟩ := flatT_ok 3 _ _ confFlat fuel cs _ hf
 obtain ⟨c, a, cap, rfl, h3, h4⟩ := leaf_conf h1 h2
 exact ⟨c, a, cap, Z, h3, h4⟩
end
end Adm
namespace Rep
open Go Vg T Api Kv Ch Lg Rd Win Adm Sched Conf
attribute [local irreducible] VO VC VA
def resEq (o p : ResM) : Bool := decide (o.code = p.code) && (decide (o.value = p.value) && (decide (o.version = p.version) && (decide (o.at_ = p.at_) && true)))
theorem resEq_rfl (o : ResM) : resEq o o = true := by simp [resEq]
theorem stoodRes : Tryz.prog.stoodInHeld 42 = false := by kernel_rfl
theorem guardRes : Tryz.prog.eqGuardType Tryz.prog.depth 42 = false := by kernel_rfl
theorem res_eq (o p : ResM) (w : World) : (Op.equal 42 (.agg (resC o).toArray) (.agg (resC p).toArray)).run Tryz.prog w = .ok (resEq o p) w := by
 have hi : ∀ (cs : List Value) (j : Nat) (n : Int), cs[j]? = some (.int .i64 n) → ∀ w : World, (part 3 cs.toArray j).run Tryz.prog w = .ok (.int .i64 n) w := fun cs j n h w => part1 (TabOk.look tabOk (t := 3) (ti := T.t3) rfl) rfl h w
 have hs : ∀ (cs : List Value) (j : Nat) (s : ByteArray), cs[j]? = some (.string s) → ∀ w : World, (part 9 cs.toArray j).run Tryz.prog w = .ok (.string s) w := fun cs j n h w => part1 (TabOk.look tabOk (t := 9) (ti := T.t9) rfl) rfl h w
 refine EqT.run (EqT.st Tryz.underlying42 stoodRes (EqFs.cons yy (hi _ _ _ Z) (hi _ _ _ Z) (EqT.int Tryz.underlying3 o.code p.code) (EqFs.cons yy (hs _ _ _ Z) (hs _ _ _ Z) (EqT.str Tryz.underlying9 o.value p.value) (EqFs.cons yy (hi _ _ _ Z) (hi _ _ _ Z) (EqT.int Tryz.underlying3 o.version p.version) (EqFs.cons yy (hi _ _ _ Z) (hi _ _ _ Z) (EqT.int Tryz.underlying3 o.at_ p.at_) EqFs.nil))))) yy w
end Rep
namespace Rep
open Go Vg T Api Kv Ch Lg Rd Win Adm Sched Conf
attribute [local irreducible] VO VC VA
def opEqB (o p : OpM) : Bool := decide (o.kind = p.kind) && (decide (o.key = p.key) && (decide (o.value = p.value) && (decide (o.version = p.version) && true)))
def entEqB (e d : EntryM) : Bool := decide (e.index = d.index) && (decide (e.client = d.client) && (decide (e.seq = d.seq) && (opEqB e.op d.op && true)))
theorem entEqB_iff (e d : EntryM) : entEqB e d = true ↔ e = d := by
 obtain ⟨a1, a2, a3, ⟨o1, o2, o3, o4⟩⟩ := e
 obtain ⟨b1, b2, b3, ⟨p1, p2, p3, p4⟩⟩ := d
 simp [entEqB, opEqB]
theorem stoodEnt : Tryz.prog.stoodInHeld 44 = false := by kernel_rfl
theorem stoodOp : Tryz.prog.stoodInHeld 40 = false := by kernel_rfl
theorem guardEnt : Tryz.prog.eqGuardType Tryz.prog.depth 44 = false := by kernel_rfl
theorem ent_eq (e d : EntryM) (w : World) : (Op.equal 44 (.agg (entC e).toArray) (.agg (entC d).toArray)).run Tryz.prog w = .ok (entEqB e d) w := by
 have hi : ∀ (cs : List Value) (j : Nat) (n : Int), cs[j]? = some (.int .i64 n) → ∀ w : World, (part 3 cs.toArray j).run Tryz.prog w = .ok (.int .i64 n) w := fun cs j n h w => part1 (TabOk.look tabOk (t := 3) (ti := T.t3) rfl) rfl h w
 have hs : ∀ (cs : List Value) (j : Nat) (s : ByteArray), cs[j]? = some (.string s) → ∀ w : World, (part 9 cs.toArray j).run Tryz.prog w = .ok (.string s) w := fun cs j n h w => part1 (TabOk.look tabOk (t := 9) (ti := T.t9) rfl) rfl h w
 have ho : ∀ (e : EntryM) (w : World), (part 40 (entC e).toArray 3).run Tryz.prog w = .ok (.agg e.op.cells.toArray) w := fun e w => partA (cs := entC e) (ds := e.op.cells) (off := 3) (TabOk.look tabOk (t := 40) (ti := T.t40) rfl) yn (by show ((entC e).drop 3).take 4 = e.op.cells; rfl) w
 refine EqT.run (EqT.st Tryz.underlying44 stoodEnt (EqFs.cons yy (hi _ _ _ Z) (hi _ _ _ Z) (EqT.int Tryz.underlying3 e.index d.index) (EqFs.cons yy (hi _ _ _ Z) (hi _ _ _ Z) (EqT.int Tryz.underlying3 e.client d.client) (EqFs.cons yy (hi _ _ _ Z) (hi _ _ _ Z) (EqT.int Tryz.underlying3 e.seq d.seq) (EqFs.cons yy (ho e) (ho d) (EqT.st Tryz.underlying40 stoodOp (EqFs.cons yy (hi _ _ _ Z) (hi _ _ _ Z) (EqT.int Tryz.underlying3 e.op.kind d.op.kind) (EqFs.cons yy (hs _ _ _ Z) (hs _ _ _ Z) (EqT.str Tryz.underlying9 e.op.key d.op.key) (EqFs.cons yy (hs _ _ _ Z) (hs _ _ _ Z) (EqT.str Tryz.underlying9 e.op.value d.op.value) (EqFs.cons yy (hi _ _ _ Z) (hi _ _ _ Z) (EqT.int Tryz.underlying3 e.op.version d.op.version) EqFs.nil))))) EqFs.nil))))) yy w
end Rep
namespace Nd
open Go Vg T Api Kv Ch Lg Rd Win Adm Sched Conf Rep Ref16 Rk
attribute [local irreducible] VO VC VA
deriving instance DecidableEq for ChM
def memEqB (m k : MemM) : Bool := decide (m.1 = k.1) && (decide (m.2 = k.2) && true)
theorem memEqB_iff (m k : MemM) : memEqB m k = true ↔ m = k := by
 obtain ⟨m1, m2⟩ := m; obtain ⟨k1, k2⟩ := k
 simp [memEqB]
theorem stoodMem : Tryz.prog.stoodInHeld 33 = false := by kernel_rfl
theorem guardMem : Tryz.prog.eqGuardType Tryz.prog.depth 33 = false := by kernel_rfl
theorem mem_eq (o p : MemM) (w : World) : (Op.equal 33 (.agg (memC o).toArray) (.agg (memC p).toArray)).run Tryz.prog w = .ok (memEqB o p) w := by
 have hi : ∀ (cs : List Value) (j : Nat) (n : Int), cs[j]? = some (.int .i64 n) → ∀ w : World, (part 3 cs.toArray j).run Tryz.prog w = .ok (.int .i64 n) w := fun cs j n h w => part1 (TabOk.look tabOk (t := 3) (ti := T.t3) rfl) rfl h w
 refine EqT.run (EqT.st Tryz.underlying33 stoodMem (EqFs.cons yy (hi _ _ _ Z) (hi _ _ _ Z) (EqT.int Tryz.underlying3 o.1 p.1) (EqFs.cons yy (hi _ _ _ Z) (hi _ _ _ Z) (EqT.int Tryz.underlying3 o.2 p.2) EqFs.nil))) yy w
theorem samech_spec {c d : ChM} {a b : Option Addr} {ac bc : Nat} (h : RwIn memC 2 Fr w a c.ms) (k : RwIn memC 2 Fr w b d.ms) (hl : c.ms.length ≤ 1000000) (hk : d.ms.length ≤ 1000000) :
  Tri Tryz.prog 41 [.agg (c.cells a ac).toArray, .agg (d.cells b bc).toArray] Fr w [] (fun v L => v = .bool (decide (c = d)) ∧ L = []) := by
 refine TF 45 Tryz.func41 Z yn tabOk Z Z ?_
 refine CS (CG (VG (VB (vs := c.cells a ac) Z fun x => VG (VB (vs := d.cells b bc) Z fun y => ?_))))
 refine xfl ?_
 by_cases h1 : c.epoch = d.epoch
 rotate_left
 ·refine VG (VY 11 true Z ycs ?_)
  refine xdv ?_
  refine VG (VY 18 true Z Z ?_)
  refine znz ?_
  exact CR (Ret.tmp 4 Z Z Imp.nil.ent ⟨by rw [DF (fun e => h1 yar)], Z⟩)
 refine VG (VY 11 false Z yct ?_)
 refine xfp ?_
 by_cases h2 : c.drain = d.drain
 rotate_left
 ·refine VG (VY 18 true Z yce ?_)
  refine znz ?_
  exact CR (Ret.tmp 4 Z Z Imp.nil.ent ⟨by rw [DF (fun e => h2 yar)], Z⟩)
 refine VG (VY 18 false Z ycd ?_)
 refine xfp ?_
 refine VC.condNE (i := (c.ms.length : Int)) (j := (d.ms.length : Int)) Z (fun h3 => ?_) (fun h3 => CK ?_)
 ·refine xdj ?_
  exact CR (Ret.tmp 4 Z Z Imp.nil.ent ⟨by rw [DF (fun e => h3 yar)], Z⟩)
 have h3 : c.ms.length = d.ms.length := by omega
 refine xdj ?_
 refine VC.loop (σ := Nat) (fun i => [(2, pV x), (3, pV y), (5, .int .i64 i)]) (fun _ => [pt y (d.cells b bc) chT, pt x (c.cells a ac) chT]) (fun i => i ≤ c.ms.length ∧ ∀ j, j < i → c.ms[j]? = d.ms[j]?) (fun i => c.ms.length - i) 0
  ⟨Nat.zero_le _, fun j hj => absurd hj (Nat.not_lt_zero j)⟩ sbZ ER ?_
 rintro i ⟨hi, hall⟩
 refine xfl ?_
 refine CP (p := (i : Int) < (c.ms.length : Int)) Z (fun h4 => CK ?_) (fun h4 => CX ?_)
 rotate_left
 ·refine xdj ?_
  refine CR (Ret.tmp 4 Z Z Imp.nil.ent ⟨?_, Z⟩)
  have hms : c.ms = d.ms := by
   apply List.ext_getElem?
   intro j
   by_cases hj : j < c.ms.length
   ·exact hall j ye
   ·rw [List.getElem?_eq_none ye, List.getElem?_eq_none ye]
  have : c = d := by cases c; cases d; dsimp only at h1 h2 hms; subst h1; subst h2; subst hms; rfl
  rw [DT this]
 obtain ⟨m, hm⟩ : ∃ m, c.ms[i]? = some m := ⟨_, GE ye⟩
 obtain ⟨n, hn⟩ : ∃ m, d.ms[i]? = some m := ⟨_, GE ye⟩
 obtain ⟨mb, mo, hma, ra, rc⟩ := RwIn.rd (X := ⟨Tryz.prog, tab, tabOk, 45, Fr, w⟩) h hm
 subst hma
 obtain ⟨nb, no, hna, sa, sc⟩ := RwIn.rd (X := ⟨Tryz.prog, tab, tabOk, 45, Fr, w⟩) k hn
 subst hna
 refine xdi ?_
 refine CS ?_
 refine CD (ts 0 11 .nil) yn yq ?_
 refine xgg ?_
 refine VA.go (AI Z (light_idx i Z Z Z Z Z ye ye) ?_)
 refine VA.go (VA.load Z Z Z (ra _ _ Z Z) ?_)
 refine xgg ?_
 refine VA.go (AI Z (light_idx i Z Z Z Z Z ye ye) ?_)
 refine VA.go (VA.load Z Z Z (sa _ _ Z Z) ?_)
 refine VA.go (AI Z (light_neS guardMem Z Z (mem_eq m n)) ?_)
 refine xgg ?_
 refine CC (t := !memEqB m n) Z (fun hd => ?_) (fun hd => CK ?_)
 ·refine xdj ?_
  refine CR (Ret.tmp 4 Z Z Imp.nil.ent ⟨?_, Z⟩)
  have hd : memEqB m n = false := by simpa using hd
  rw [DF]
  intro e
  rw [e, hn] at hm
  cases hm
  rw [(memEqB_iff m m).2 rfl] at hd
  cases hd
 ·have hd : memEqB m n = true := by simpa using hd
  refine znv ?_
  refine ⟨i + 1, ⟨by omega, fun j hj => ?_⟩, by dsimp only; omega, sbZ, ER⟩
  by_cases hji : j = i
  ·subst hji; rw [hm, hn, (memEqB_iff m n).1 hd]
  ·exact hall j ye
structure NdIn (Fr : Nat → Prop) (w : World) (p : Nat) (C : ConfM) (ca : Option Addr) (cc : Nat) (R : RepM) (x : NdS) : Prop where
 ok : ndOk R x
 blk : Blk Fr w p (ndCs C ca cc R x)
 mem : RwIn memC 2 Fr w x.a R.ch.ms
 log : SatIn Fr [rlogH x.lp R.log] w
 adm : SatIn Fr [radH x.ap C ca cc R.adm] w
 rds : SatIn Fr [rrdsH x.rp R.rds] w
theorem NdIn.of' {X : Cx} {p : Nat} {C : ConfM} {ca : Option Addr} {cc : Nat} {R : RepM} {x : NdS} (h : NdIn X.Fr X.w0 p C ca cc R x) {Fr' : Nat → Prop} {w : World} {L : List HP} (hF : ∀ b, X.Fr b → Fr' b) (hs : St X L w) : NdIn Fr' w p C ca cc R x :=
 ⟨h.ok, h.blk.of hF hs, RwIn.of h.mem hF hs, h.log.of hF hs, h.adm.of hF hs, h.rds.of hF hs⟩
theorem ndlast_spec {p : Nat} {C : ConfM} {ca : Option Addr} {cc : Nat} {R : RepM} {x : NdS} (h : NdIn Fr w p C ca cc R x) : Tri Tryz.prog 91 [.pointer (some ⟨p, 0, none⟩)] Fr w [] (fun v L => v = .int .i64 R.log.length ∧ L = []) := by
 have hb := h.blk
 refine TF 8 Tryz.func91 Z yn tabOk Z Z ?_
 refine xer ?_
 refine VG (VV (fun Fr w hF hs _ => rllen_spec Fr w (h.log.of hF hs)) Z ?_)
 refine xdj ?_
 exact xee
end Nd
namespace Nd
open Go Vg T Api Kv Ch Lg Rd Win Adm Sched Conf Rep Ref16 Rk
attribute [local irreducible] VO VC VA
def ResOk (es : List EntryM) : Prop := ∀ (Fr : Nat → Prop) (w : World) (lp : Nat), SatIn Fr [rlogH lp es] w → ∀ i : Int, 0 ≤ i → i ≤ es.length →
 Tri Tryz.prog 126 [.pointer (some ⟨lp, 0, none⟩), .int .i64 i] Fr w [] (fun v L => v = .tuple #[.agg (resC ((atI (logRun es).2 i).getD resZ)).toArray, .bool (atI (logRun es).2 i).isSome] ∧ L = [])
theorem alikeN_spec {p q : Nat} {C : ConfM} {ca : Option Addr} {cc : Nat} {R : RepM} (ok : R.Ok) (hr : SatIn Fr [repH p R] w) {x : NdS} (hx : NdIn Fr w q C ca cc R x) (hres : ResOk R.log) :
  Tri Tryz.prog 45 [.pointer (some ⟨p, 0, none⟩), .pointer (some ⟨q, 0, none⟩)] Fr w [] (fun v L => v = .bool true ∧ L = []) := by
 have hb := hx.blk
 obtain ⟨sp, hsp⟩ := hx.adm.ex
 have hsp := hsp.sep
 have hab := hsp.blk 0 rfl
 obtain ⟨s, hs⟩ := RfIn.of (hsp.at_ 1 rfl)
 have hsb := hs.at0
 have hsq := hs.q
 have hss := hs.sv
 obtain ⟨rr, hrr⟩ := hx.rds.ex
 have hrr := hrr.sep
 have hrok : rrdsOk R.rds rr := hrr.pure 0 rfl
 have hrb := hrr.blk 1 rfl
 have hrl : rr.xs.length = R.rds.l.length := by have := congrArg List.length hrok.2; simpa using this
 have hchl := ok.ch.len
 have hlast := ok.last
 have hl1 := ok.win.last1
 have hc1 := ok.win.cap0
 have hwf := hs.ok.wf
 refine TF 207 Tryz.func45 Z yn tabOk Z Z ?_
 refine xdj ?_
 refine CD (.take 0 (ts 2 4 (.only 1 (.only 6 (.take 7 (.take 8 (.take 9 (ts 11 4 (.only 10 (.take 15 (.take 16 (.take 17 (.take 18 (ts 20 4 (.only 19 (.take 24 (.take 25 (.take 26 (.take 27 (ts 29 8 (.only 28 (.take 37 (.take 38 .nil))))))))))))))))))))))) yn yq ?_
 refine VA.go (VA.load Z Z Z (RdL.blkA (ds := R.ch.cells x.a x.c) hb Z) ?_)
 refine VA.go (AO (OC (Lc := []) (R := fun v L => ∃ a c, v = .agg (R.ch.cells a c).toArray ∧ L = [slH memT 2 a R.ch.ms.length c (flat memC R.ch.ms)]) Z (.refl _) (fun Fr w hF hs hS => chain_spec Fr w ok (hr.of hF hs))) Z ?_ ?_)
 ·rintro _ _ ⟨_, ⟨a1, c1, rfl, rfl⟩, rfl⟩
  exact ycw
 rintro _ _ ⟨_, ⟨a1, c1, rfl, rfl⟩, rfl⟩
 refine VA.go (AR (fun Fr w hF hs hS => samech_spec Fr w (c := R.ch) (d := R.ch) (RwIn.slH memC_len (hS.at_ 0 Z)) (RwIn.of hx.mem hF hs) ye ye) Z Z ycw ?_)
 refine VA.go (AY 27 false Z ya ?_)
 refine xnd ?_
 refine VA.go (AR (fun Fr w hF hs hS => Rep.rsince_spec Fr w (hr.of hF hs)) Z Z ycx ?_)
 refine VA.go (AY 36 false Z ya ?_)
 refine xnd ?_
 refine VA.go (AR (fun Fr w hF hs hS => Rep.whole_spec Fr w (hr.of hF hs)) Z Z ycx ?_)
 refine VA.go (AY 45 false Z ya ?_)
 refine xnd ?_
 refine VA.go (AR (fun Fr w hF hs hS => Rep.reading_spec Fr w ok (hr.of hF hs)) Z Z (by (try refine Pd.st ?_);(repeat (first|exact Pd.nil|exact Pd.fnil|refine Pd.inner ?_|refine Pd.skip yq ?_|refine zf (RdL.blk (RdL.blkA hb Z) Z) ?_|refine zf (RdL.blk (RdL.blk hb Z) Z) ?_|refine zf (RdL.blk (RdL.blk hrb Z) Z) ?_|refine zf ((RdL.blkA hb Z)) ?_|refine zf ((RdL.blk hb Z)) ?_|refine zf ((RdL.blk hrb Z)) ?_|refine zc (RdL.blk (RdL.blkA hb Z) Z) ?_|refine zc (RdL.blk (RdL.blk hb Z) Z) ?_|refine zc (RdL.blk (RdL.blk hrb Z) Z) ?_|refine zc ((RdL.blkA hb Z)) ?_|refine zc ((RdL.blk hb Z)) ?_|refine zc ((RdL.blk hrb Z)) ?_))) ?_)
 refine xnd ?_
 refine VC.condNE (i := (R.rds.l.length : Int)) (j := (rr.xs.length : Int)) Z (fun h => absurd (by rw [hrl]) h) (fun _ => CK ?_)
 refine CN (L' := []) Imp.nil.ent ?_
 refine xdj ?_
 refine VG (VK (Lc := []) (fun Fr w hF hs hS => window_spec Fr w ok (hr.of hF hs)) Z Z ?_)
 rintro _ _ ⟨wq, rfl, rfl⟩
 refine VG (VK (Lc := []) (fun Fr w hF hs hS => log_spec Fr w ok (hr.of hF hs)) Z Z ?_)
 rintro _ _ ⟨lq, rfl, rfl⟩
 refine xkn ?_
 refine CD (.take 0 (.take 2 (.only 1 (.only 3 (.take 4 (.take 5 (.take 6 (ts 8 4 (.only 7 (.take 12 (.take 13 (.take 14 (.take 15 (ts 17 4 (.only 16 (.take 21 (.take 22 (.take 23 (.take 24 (ts 26 4 (.only 25 (.take 30 (.take 31 (.take 32 (.take 33 (.take 35 (.only 34 (.only 36 (.take 37 (.take 38 .nil)))))))))))))))))))))))))))))) yn yq ?_
 refine VA.go (AR (fun Fr w hF hs hS => Win.last_spec Fr w (hS.blk 1 Z) hc1) Z Z yw ?_)
 refine xne ?_
 refine VA.go (AY 67 false Z (by rw [bne_eq_false_iff_eq]; exact hlast) ?_)
 refine xew ?_
 refine VA.go (AR (fun Fr w hF hs hS => Win.done_spec Fr w (hS.blk 1 Z) hc1) Z Z yw ?_)
 refine VA.go (AY 76 false Z ya ?_)
 refine xew ?_
 refine VA.go (AR (fun Fr w hF hs hS => Win.sent_spec Fr w (hS.blk 1 Z) hc1) Z Z yw ?_)
 refine VA.go (AY 85 false Z ya ?_)
 refine xew ?_
 refine VA.go (AR (fun Fr w hF hs hS => Win.limit_spec Fr w (hS.blk 1 Z) hc1) Z Z yw ?_)
 refine VA.go (AY 94 false Z ya ?_)
 refine VA.go (AR (fun Fr w hF hs hS => Lg.len_spec Fr w (hS.at_ 0 Z)) Z Z yw ?_)
 refine xne ?_
 refine xew ?_
 refine VC.condNE (i := (R.log.length : Int)) (j := (R.log.length : Int)) Z (fun h => absurd Z h) (fun _ => CK ?_)
 refine CS ?_
 refine VC.meetS (σ := Unit) (fun _ => [(0, pV p), (1, pV q)]) (fun _ => []) (fun _ => True) ?_ ?_
 ·refine xkn ?_
  refine VC.loop (σ := Nat) (fun i => [(0, pV p), (1, pV q), (6, pV lq), (7, .int .i64 i)]) (fun _ => [logH lq R.log]) (fun i => i ≤ R.log.length + 1) (fun i => R.log.length + 1 - i) 0 (Nat.zero_le _) sbZ (IP 0 Z Imp.nil).ent ?_
  intro i hi
  refine xkn ?_
  refine VG (VV (fun Fr w hF hs _ => ndlast_spec Fr w (hx.of' hF hs)) Z ?_)
  refine xkn ?_
  refine CP (p := (i : Int) ≤ (R.log.length : Int)) Z (fun h2 => CK ?_) (fun h2 => CX ?_)
  rotate_left
  ·exact ⟨(), trivial, sbZ, Imp.nil.ent⟩
  refine xdi ?_
  refine xkn ?_
  refine VG (VV (fun Fr w hF hs hS => Lg.at_spec Fr w (hS.at_ 0 Z) i ye ye) Z ?_)
  refine VG (VO.alloc Z fun b1 => ?_)
  refine xnf ?_
  refine xir ?_
  refine VG (VV (fun Fr w hF hs hS => rlat_spec Fr w (hx.log.of hF hs) i ye ye) Z ?_)
  refine VG (VO.alloc Z fun b2 => ?_)
  refine xnf ?_
  refine xkn ?_
  refine VG (VV (fun Fr w hF hs hS => Lg.result_spec Fr w (hS.at_ 2 Z) i ye ye) Z ?_)
  refine VG (VO.alloc Z fun b3 => ?_)
  refine xng ?_
  refine xir ?_
  refine VG (VV (fun Fr w hF hs hS => hres Fr w x.lp (hx.log.of hF hs) i ye ye) Z ?_)
  refine VG (VO.alloc Z fun b4 => ?_)
  refine xng ?_
  refine xkn ?_
  refine VG (VL 3 (entC ((atI R.log i).getD entZ)) Z Z Z Z ?_)
  refine VG (VL 2 (entC ((atI R.log i).getD entZ)) Z Z Z Z ?_)
  refine VG (VI (light_neS guardEnt Z Z (ent_eq _ _)) ?_)
  refine VG (VY 140 false Z (by rw [(entEqB_iff _ _).2 rfl]; rfl) ?_)
  refine VG (VY 145 false Z ya ?_)
  refine VG (VL 1 (resC ((atI (logRun R.log).2 i).getD resZ)) Z Z Z Z ?_)
  refine VG (VL 0 (resC ((atI (logRun R.log).2 i).getD resZ)) Z Z Z Z ?_)
  refine VG (VI (light_neS guardRes Z Z (res_eq _ _)) ?_)
  refine VG (VY 150 false Z (by rw [resEq_rfl]; rfl) ?_)
  refine xkn ?_
  refine CC Z (fun h => ?_) (fun _ => CK ?_)
  ·exfalso; simp at h
  refine zoc ?_
  exact ⟨i + 1, by omega, by dsimp only; omega, sbZ, (IP 4 Z Imp.nil).ent⟩
 rintro _ -
 refine xkn ?_
 refine VC.loop (σ := Nat) (fun j => [(0, pV p), (1, pV q), (16, .int .i64 ((j : Int) - 1))]) (fun _ => []) (fun j => j ≤ 6) (fun j => 6 - j) 0 (Nat.zero_le _) sbZ ER ?_
 intro j hj
 refine xkn ?_
 refine CP (p := (j : Int) - 1 < 5) Z (fun h2 => CK ?_) (fun h2 => CX ?_)
 rotate_left
 ·refine xkn ?_
  exact CR (Ret.tmp 4 Z Z Imp.nil.ent ⟨rfl, Z⟩)
 refine xdi ?_
 refine xdz ?_
 refine CS ?_
 refine VC.meetS (σ := Unit) (fun _ => [(0, pV p), (1, pV q), (16, .int .i64 ((j : Int) - 1)), (17, .int .i64 (R.adm.sch.lenM ((j : Int) - 1))), (18, .int .i64 (R.adm.sch.servedM ((j : Int) - 1)))]) (fun _ => []) (fun _ => True) ?_ ?_
 ·(repeat (first|refine zS ?_|refine zR ?_|refine zB ?_|refine zL ?_|refine zC ?_|refine zG (zN ?_)|refine zG (zE rfl rfl (RdL.blk hb rfl) ?_)|refine zG (zE rfl rfl (RdL.blk hab rfl) ?_)|refine zG (zU rfl rfl rfl ?_)))
  refine VG (VV (fun Fr w hF hs _ => Ref16.has_spec Fr w ((j : Int) - 1) (hsb.of hF hs)) Z ?_)
  refine xkn ?_
  refine CP Z (fun h3 => ?_) (fun h3 => CK ?_)
  rotate_left
  ·have e := SchM.at_out h3
   have e1 : R.adm.sch.lenM ((j : Int) - 1) = 0 := by rw [SchM.lenM, e]
   have e2 : R.adm.sch.servedM ((j : Int) - 1) = 0 := by rw [SchM.servedM, e]
   rw [e1, e2]
   exact xgr
  obtain ⟨k, hk⟩ : ∃ k : Nat, (j : Int) - 1 = k := ⟨((j : Int) - 1).toNat, by omega⟩
  rw [hk] at h3 ⊢
  have hkl : k < R.adm.sch.cls.length := by omega
  obtain ⟨r, c, hr1, hc2, hrok1, hrc⟩ := hs.ok.row hkl
  have hrlen : r.xs.length = c.q.length := by have := congrArg List.length hrc; simpa using this
  have hat : R.adm.sch.at_ k = some c := by rw [SchM.at_nat]; exact hc2
  have e1 : R.adm.sch.lenM k = r.xs.length := by rw [SchM.lenM, hat, hrlen]
  have e2 : R.adm.sch.servedM k = c.served := by rw [SchM.servedM, hat]
  rw [e1, e2]
  refine CD (ts 0 14 (.take 27 (ts 14 13 (.take 28 .nil)))) yn yq ?_
  refine xnh ?_
  refine VA.go (AI Z (light_idx k Z Z Z Z Z Z hkl) ?_)
  refine VA.go (VA.load Z Z Z (RdL.blk (v := .slice r.addr r.xs.length r.cap) hsq (rows_v hr1)) ?_)
  refine xnh ?_
  refine VA.go (AI Z (light_idx k Z Z Z Z Z Z hkl) ?_)
  refine VA.go (VA.load Z Z Z (RdL.blk (v := .int .i64 c.served) hss (svs_at hc2)) ?_)
  refine xnh ?_
  exact xgr
 rintro _ -
 refine xkn ?_
 refine VG (VV (fun Fr w hF hs _ => waiting_spec Fr w (hr.of hF hs) ((j : Int) - 1)) Z ?_)
 refine VG (VY 200 false Z ya ?_)
 refine VG (VV (fun Fr w hF hs _ => rserved_spec Fr w (hr.of hF hs) ((j : Int) - 1)) Z ?_)
 refine xkn ?_
 refine VC.condNE (i := R.adm.sch.servedM ((j : Int) - 1)) (j := R.adm.sch.servedM ((j : Int) - 1)) Z (fun h => absurd Z h) (fun _ => CK ?_)
 refine zoc ?_
 exact ⟨j + 1, by omega, by dsimp only; omega, SC Z (SC Z (SC (by show some (Value.int .i64 ((j : Int) - 1 + 1)) = some (.int .i64 (((j + 1 : Nat) : Int) - 1)); rw [show (j : Int) - 1 + 1 = ((j + 1 : Nat) : Int) - 1 by omega]) (SN _))), ER⟩
end Nd
namespace Nd
open Go Vg T Api Kv Ch Lg Rd Win Adm Sched Conf Rep Rk
attribute [local irreducible] VO VC VA
structure XAct where
 kind : Nat
 a : Nat
 b : Nat
 c : Nat
 op : OpM
 from_ : Int
 f : FrameM
 ma : Option Addr
 mn : Nat
 mc : Nat
abbrev xaT : TypeId := 67
def xaC (x : XAct) : List Value := .int .u8 x.kind :: .int .u8 x.a :: .int .u8 x.b :: .int .u8 x.c :: (x.op.cells ++ (.int .i64 x.from_ :: fgC x.f (x.ma, x.mn, x.mc)))
theorem xaC_len (x : XAct) : (xaC x).length = 38 := rfl
def XAct.bad (x : XAct) : Bool := decide (200 < x.op.key.size) || (decide (200 < x.op.value.size) || (decide (200 < x.f.op.key.size) || (decide (200 < x.f.op.value.size) || (decide (200 < x.f.entry.op.key.size) || (decide (200 < x.f.entry.op.value.size) || (decide (200 < x.f.res.value.size) || decide (10 < x.mn)))))))
def greatB (l : List XAct) (most : Int) : Bool := l.any XAct.bad || decide (most < l.length)
theorem xgreat_spec (a : Option Addr) (c : Nat) (l : List XAct) (most : Int) (h : RwIn xaC 38 Fr w a l) (hl : l.length ≤ 9223372036854775807) :
  Tri Tryz.prog 24 [.slice a l.length c, .int .i64 most] Fr w [] (fun v L => v = .bool (greatB l most) ∧ L = []) := by
 refine TF 83 Tryz.func24 Z yn tabOk Z Z ?_
 refine xkn ?_
 refine VC.loop (σ := Nat) (fun i => [(0, .slice a l.length c), (1, .int .i64 most), (5, .int .i64 i)]) (fun _ => []) (fun i => i ≤ l.length ∧ (l.take i).any XAct.bad = false) (fun i => l.length - i) 0 ⟨Nat.zero_le _, Z⟩ sbZ ER ?_
 rintro i ⟨hi, hall⟩
 refine xkn ?_
 refine CP (p := (i : Int) < (l.length : Int)) Z (fun h1 => CK ?_) (fun h1 => CX ?_)
 rotate_left
 ·have hi2 : i = l.length := by omega
  subst hi2
  rw [List.take_length] at hall
  refine xkn ?_
  exact CR (Ret.tmp 4 Z Z ER ⟨by rw [greatB, hall]; rfl, Z⟩)
 have hi2 : i < l.length := by omega
 obtain ⟨x, hx⟩ : ∃ x, l[i]? = some x := ⟨_, GE hi2⟩
 obtain ⟨mb, mo, hma, ra, rc⟩ := RwIn.rd (X := ⟨Tryz.prog, tab, tabOk, 83, Fr, w⟩) h hx
 have htake : l.take (i + 1) = l.take i ++ [x] := by rw [List.take_add_one, hx]; rfl
 rw [hma]
 refine xdi ?_
 refine xkn ?_
 refine xff ?_
 refine xeu ?_
 refine VG (VO.alloc Z fun xb => ?_)
 refine VG (VT (vs := xaC x) (cs' := xaC x) 0 Z Z Z Z (NR _) Z Z Z (VG (VN ?_)))
 refine CS ?_
 refine VC.meetS (σ := Unit) (fun _ => [(0, .slice (some ⟨mb, mo, none⟩) l.length c), (1, .int .i64 most), (5, .int .i64 i), (78, .bool x.bad)]) (fun _ => []) (fun _ => True) ?_ ?_
 ·refine CG ?_
  refine xkk ?_
  by_cases h10 : 200 < x.op.key.size
  ·refine VG (VY 22 true Z (DT ye) ?_)
   refine xkn ?_
   refine VG (VY 29 true Z Z ?_)
   refine xkn ?_
   refine VG (VY 37 true Z Z ?_)
   refine xkn ?_
   refine VG (VY 45 true Z Z ?_)
   refine zpf ?_
   refine xkn ?_
   refine xni ?_
   refine zqa ?_
   refine ⟨(), trivial, SC Z (SC Z (SC Z (Sub.bl Z ?_ (SN _)))), Imp.nil.ent⟩
   rw [XAct.bad, DT h10]; simp
  refine VG (VY 22 false Z (DF ye) ?_)
  refine xkk ?_
  by_cases h11 : 200 < x.op.value.size
  ·refine VG (VY 29 true Z (DT ye) ?_)
   refine xkn ?_
   refine VG (VY 37 true Z Z ?_)
   refine xkn ?_
   refine VG (VY 45 true Z Z ?_)
   refine zpf ?_
   refine xkn ?_
   refine xni ?_
   refine zqa ?_
   refine ⟨(), trivial, SC Z (SC Z (SC Z (Sub.bl Z ?_ (SN _)))), Imp.nil.ent⟩
   rw [XAct.bad, DT h11]; simp
  refine VG (VY 29 false Z (DF ye) ?_)
  refine xkk ?_
  by_cases h12 : 200 < x.f.op.key.size
  ·refine VG (VY 37 true Z (DT ye) ?_)
   refine xkn ?_
   refine VG (VY 45 true Z Z ?_)
   refine zpf ?_
   refine xkn ?_
   refine xni ?_
   refine zqa ?_
   refine ⟨(), trivial, SC Z (SC Z (SC Z (Sub.bl Z ?_ (SN _)))), Imp.nil.ent⟩
   rw [XAct.bad, DT h12]; simp
  refine VG (VY 37 false Z (DF ye) ?_)
  refine xkk ?_
  by_cases h13 : 200 < x.f.op.value.size
  ·refine VG (VY 45 true Z (DT ye) ?_)
   refine zpf ?_
   refine xkn ?_
   refine xni ?_
   refine zqa ?_
   refine ⟨(), trivial, SC Z (SC Z (SC Z (Sub.bl Z ?_ (SN _)))), Imp.nil.ent⟩
   rw [XAct.bad, DT h13]; simp
  refine VG (VY 45 false Z (DF ye) ?_)
  refine xkk ?_
  by_cases h14 : 200 < x.f.entry.op.key.size
  ·refine VG (VY 54 true Z (DT ye) ?_)
   refine xkn ?_
   refine xni ?_
   refine zqa ?_
   refine ⟨(), trivial, SC Z (SC Z (SC Z (Sub.bl Z ?_ (SN _)))), Imp.nil.ent⟩
   rw [XAct.bad, DT h14]; simp
  refine VG (VY 54 false Z (DF ye) ?_)
  refine xkk ?_
  by_cases h15 : 200 < x.f.entry.op.value.size
  ·refine VG (VY 63 true Z (DT ye) ?_)
   refine zqa ?_
   refine ⟨(), trivial, SC Z (SC Z (SC Z (Sub.bl Z ?_ (SN _)))), Imp.nil.ent⟩
   rw [XAct.bad, DT h15]; simp
  refine VG (VY 63 false Z (DF ye) ?_)
  refine xkk ?_
  by_cases h16 : 200 < x.f.res.value.size
  ·refine VG (VY 71 true Z (DT ye) ?_)
   refine xkn ?_
   refine ⟨(), trivial, SC Z (SC Z (SC Z (Sub.bl Z ?_ (SN _)))), Imp.nil.ent⟩
   rw [XAct.bad, DT h16]; simp
  refine VG (VY 71 false Z (DF ye) ?_)
  refine xkk ?_
  refine xkn ?_
  refine ⟨(), trivial, SC Z (SC Z (SC Z (Sub.bl Z ?_ (SN _)))), Imp.nil.ent⟩
  rw [XAct.bad, DF h10, DF h11, DF h12, DF h13, DF h14, DF h15, DF h16]
  simp only [Bool.false_or]
  by_cases h17 : 10 < x.mn
  ·rw [DT h17]; exact DT ye
  ·rw [DF h17]; exact DF ye
 rintro _ -
 rw [← hma]
 refine CC Z (fun hb => ?_) (fun hb => CK ?_)
 ·refine xkn ?_
  refine CR (Ret.tmp 4 Z Z Imp.nil.ent ⟨?_, Z⟩)
  have : l.any XAct.bad = true := List.any_eq_true.2 ⟨x, ME hx, hb⟩
  rw [greatB, this]; rfl
 ·refine zoc ?_
  refine ⟨i + 1, ⟨hi2, ?_⟩, by dsimp only; omega, sbZ, ER⟩
  rw [htake, List.any_append, hall]
  simp [hb]
end Nd
namespace Nd
open Go Vg T Api Kv Ch Lg Rd Win Adm Sched Conf Rep Rk
attribute [local irreducible] VO VC VA
def chainD (c : ChM) (a b nodes : Int) : ChM × Int :=
 if a % 4 = 0 then withM c (b % nodes) else if a % 4 = 1 then withoutM c (b % nodes) else if a % 4 = 2 then drainM c (b % nodes) else (⟨c.epoch + 1 + b % 3, c.ms, c.drain⟩, 0)
def chainM (c : ChM) (a b nodes : Int) : ChM :=
 if (chainD c a b nodes).2 ≠ 0 ∨ c.epoch = 0 then ⟨c.epoch + 1, [(b % nodes, c.epoch + 1)], -1⟩ else (chainD c a b nodes).1
def memO (a : Option Addr) (c : Nat) (ms : List MemM) (a0 : Option Addr) (ms0 : List MemM) (H : HP) : Prop := H = slH memT 2 a ms.length c (flat memC ms) ∨ (H = hpure True ∧ a = a0 ∧ ms = ms0)
def chV (r : ChM) (a0 : Option Addr) (ms0 : List MemM) (v : Value) (L : List HP) : Prop := ∃ a c H, v = .agg (r.cells a c).toArray ∧ L = [H] ∧ memO a c r.ms a0 ms0 H
theorem Imp.hp {M N : List HP} (h : Imp M N) : Imp M (hpure True :: N) := Imp.pure trivial h
section
variable {c : ChM} {a : Option Addr} {cap : Nat}
theorem chain_spec (h : RwIn memC 2 Fr w a c.ms) (hl : c.ms.length ≤ 1000) (x y nodes : Int) (hx0 : 0 ≤ x) (hy0 : 0 ≤ y) (hn : 1 ≤ nodes) (he0 : 0 ≤ c.epoch) (he1 : c.epoch ≤ 4398046511104) :
  Tri Tryz.prog 111 [.agg (c.cells a cap).toArray, .int .i64 x, .int .i64 y, .int .i64 nodes] Fr w [] (chV (chainM c x y nodes) a c.ms) := by
 have hm3 : 0 ≤ y % 3 ∧ y % 3 < 3 := ⟨Int.emod_nonneg _ yy, Int.emod_lt_of_pos _ yy⟩
 have hm4 : 0 ≤ x % 4 ∧ x % 4 < 4 := ⟨Int.emod_nonneg _ yy, Int.emod_lt_of_pos _ yy⟩
 refine TF 67 Tryz.func111 Z yn tabOk Z Z ?_
 refine CS (CG (VG (VB (vs := c.cells a cap) Z fun b => VG (VO.alloc Z fun d => VG (VN ?_)))))
 refine xgw ?_
 refine xkn ?_
 refine VG (VI (light_rem Z Z hy0 ye) ?_)
 refine xfu ?_
 show VC _ _ _ _ _
 refine xgw ?_
 refine xft ?_
 refine VG (VO.alloc Z fun e => VG (VT (vs := c.cells a cap) (cs' := c.cells a cap) 0 Z Z Z Z (NR _) Z Z Z (VG (VN ?_))))
 show VC _ _ _ _ _
 obtain ⟨n, hn0⟩ : ∃ n, n = y % nodes := ⟨_, rfl⟩
 obtain ⟨D, hD⟩ : ∃ D, D = chainD c x y nodes := ⟨_, rfl⟩
 rw [← hn0]
 refine CS ?_
 refine VC.meetS (σ := Option Addr × Nat × HP) (fun s => [(4, pV b), (8, pV d), (9, .int .i64 n), (10, pV e), (11, .int .i64 D.2)]) (fun s => [pt e (D.1.cells s.1 s.2.1) chT, s.2.2, pt d (chZ.cells none 0) chT, pt b (c.cells a cap) chT]) (fun s => memO s.1 s.2.1 D.1.ms a c.ms s.2.2) ?_ ?_
 ·refine xgw ?_
  refine xkn ?_
  refine VG (VI (light_rem Z Z hx0 yy) ?_)
  refine xfu ?_
  show VC _ _ _ _ _
  refine xje ?_
  have st : ∀ {X : Cx} {E : Env} {M : List HP} {r : ChM × Int} {a' : Option Addr} {c' : Nat}, r = D → Vg.look E 4 = some (.pointer (some ⟨b, 0, none⟩)) → Vg.look E 8 = some (.pointer (some ⟨d, 0, none⟩)) → Vg.look E 9 = some (.int .i64 n) → Vg.look E 10 = some (.pointer (some ⟨e, 0, none⟩)) → Vg.look E 11 = some (.int .i64 r.2) → Ent X M [pt e (r.1.cells a' c') chT, slH memT 2 a' r.1.ms.length c' (flat memC r.1.ms), pt d (chZ.cells none 0) chT, pt b (c.cells a cap) chT] →
    ∃ s : Option Addr × Nat × HP, memO s.1 s.2.1 D.1.ms a c.ms s.2.2 ∧ Sub [(4, pV b), (8, pV d), (9, .int .i64 n), (10, pV e), (11, .int .i64 D.2)] E ∧ Ent X M [pt e (D.1.cells s.1 s.2.1) chT, s.2.2, pt d (chZ.cells none 0) chT, pt b (c.cells a cap) chT] := fun {X E M r a' c'} h0 h1 h2 h3 h4 h5 h6 => by
   subst h0
   exact ⟨(a', c', _), .inl Z, SC h1 (SC h2 (SC h3 (SC h4 (SC h5 (SN _))))), h6⟩
  refine xkn ?_
  refine CE (i := x % 4) (j := 0) Z (fun k0 => ?_) (fun k0 => ?_)
  ·have hr : withM c n = D := by rw [hD, chainD, if_pos k0, hn0]
   refine CG ?_
   refine xlf ?_
   refine VG (VK (Lc := []) (fun Fr w hF hs hS => rwith_spec Fr w (h.of hF hs) hl n) Z Z ?_)
   rintro _ _ ⟨a', c', rfl, rfl⟩
   refine xkn ?_
   refine VG (VT (vs := (withM c n).1.cells a' c') (cs' := (withM c n).1.cells a' c') 1 Z Z Z Z (NR _) Z Z Z ?_)
   exact zph
  refine xkn ?_
  refine CE (i := x % 4) (j := 1) Z (fun k1 => ?_) (fun k1 => ?_)
  ·have hr : withoutM c n = D := by rw [hD, chainD, if_neg k0, if_pos k1, hn0]
   refine CG ?_
   refine xlf ?_
   refine VG (VK (Lc := []) (fun Fr w hF hs hS => rwithout_spec Fr w (h.of hF hs) hl n) Z Z ?_)
   rintro _ _ ⟨a', c', rfl, rfl⟩
   refine xkn ?_
   refine VG (VT (vs := (withoutM c n).1.cells a' c') (cs' := (withoutM c n).1.cells a' c') 1 Z Z Z Z (NR _) Z Z Z ?_)
   exact zph
  refine xkn ?_
  refine CE (i := x % 4) (j := 2) Z (fun k2 => ?_) (fun k2 => ?_)
  ·have hr : drainM c n = D := by rw [hD, chainD, if_neg k0, if_neg k1, if_pos k2, hn0]
   refine CG ?_
   refine xlf ?_
   refine VG (VK (Lc := []) (fun Fr w hF hs hS => rdrain_spec Fr w (h.of hF hs) hl n) Z Z ?_)
   rintro _ _ ⟨a', c', rfl, rfl⟩
   refine xkn ?_
   refine VG (VT (vs := (drainM c n).1.cells a' c') (cs' := (drainM c n).1.cells a' c') 1 Z Z Z Z (NR _) Z Z Z ?_)
   exact zph
  have hr : D = (⟨c.epoch + 1 + y % 3, c.ms, c.drain⟩, 0) := by rw [hD, chainD, if_neg k0, if_neg k1, if_neg k2]
  refine CG ?_
  refine xfn ?_
  refine xds ?_
  refine VG (VI (light_rem Z Z hy0 yy) ?_)
  refine xds ?_
  refine VG (VO.st 0 (cs' := (⟨c.epoch + 1 + y % 3, c.ms, c.drain⟩ : ChM).cells a cap) Z Z Z Z (by show 0 < 3; omega) Z Z (VG (VN ?_)))
  exact ⟨(a, cap, hpure True), .inr ⟨rfl, Z, by rw [hr]⟩, SC Z (SC Z (SC Z (SC Z (SC (by rw [hr]; rfl) (SN _))))), by rw [hr]; exact (IP 0 Z (Imp.hp (pkZ [0, 0]))).ent⟩
 rintro ⟨a', c', H⟩ hH
 dsimp only at hH ⊢
 refine CS (CS ?_)
 refine VC.meetS (σ := Bool) (fun g => [(4, pV b), (8, pV d), (9, .int .i64 n), (10, pV e), (55, .bool g)]) (fun _ => [pt e (D.1.cells a' c') chT, H, pt d (chZ.cells none 0) chT, pt b (c.cells a cap) chT]) (fun g => g = true ↔ (D.2 ≠ 0 ∨ c.epoch = 0)) ?_ ?_
 ·refine CG ?_
  refine xkn ?_
  by_cases h1 : D.2 = 0
  rotate_left
  ·refine VG (VY 51 true Z ycs ?_)
   refine xkn ?_
   exact ⟨true, by simp [h1], sbZ, ER⟩
  refine VG (VY 51 false Z yct ?_)
  refine xkg ?_
  exact ⟨_, by simp [h1], SC Z (SC Z (SC Z (SC Z (SC Z (SN _))))), ER⟩
 rintro g hg
 refine CC Z (fun h1 => ?_) (fun h1 => CK ?_)
 ·have hM : chainM c x y nodes = ⟨c.epoch + 1, [(n, c.epoch + 1)], -1⟩ := by rw [chainM, ← hD, if_pos (hg.1 h1), hn0]
  refine xgw ?_
  refine xkg ?_
  refine xds ?_
  refine xkg ?_
  refine xds ?_
  refine VG (VI (LB (pv := [(0, .int .i64 n), (1, .int .i64 (c.epoch + 1))]) (memC (n, c.epoch + 1)) Z Z Z yn Z) ?_)
  refine VG (VO.buildSlice (n := 1) (pv := [(0, .agg (memC (n, c.epoch + 1)).toArray)]) (memC (n, c.epoch + 1)) Z Z Z Z yy (fill_one Z Z Z) fun sb => ?_)
  refine VG (VI (LB (pv := [(0, .int .i64 (c.epoch + 1)), (1, .slice (some ⟨sb, 0, none⟩) 1 1), (2, .int .i64 (-1))]) ((⟨c.epoch + 1, [(n, c.epoch + 1)], -1⟩ : ChM).cells (some ⟨sb, 0, none⟩) 1) Z Z Z yn Z) ?_)
  refine VG (VT (vs := (⟨c.epoch + 1, [(n, c.epoch + 1)], -1⟩ : ChM).cells (some ⟨sb, 0, none⟩) 1) (cs' := (⟨c.epoch + 1, [(n, c.epoch + 1)], -1⟩ : ChM).cells (some ⟨sb, 0, none⟩) 1) 3 Z Z Z Z (NR _) Z Z Z ?_)
  refine xkn ?_
  refine CR (Ret.cell 8 Z Z Z (RdL.many (ds := (⟨c.epoch + 1, [(n, c.epoch + 1)], -1⟩ : ChM).cells (some ⟨sb, 0, none⟩) 1) 3 Z Z) (L' := [slH memT 2 (some ⟨sb, 0, none⟩) 1 1 (memC (n, c.epoch + 1))]) ?_ ⟨some ⟨sb, 0, none⟩, 1, _, by rw [hM], Z, .inl (by rw [hM]; rfl)⟩)
  exact (Imp.sl (rest := []) Z (NR _) Z (IP 0 Z Imp.nil)).ent
 ·have hM : chainM c x y nodes = D.1 := by rw [chainM, ← hD, if_neg (fun k => by rw [hg.2 k] at h1; cases h1)]
  refine xgw ?_
  refine VG (VL 0 (D.1.cells a' c') Z Z Z Z ?_)
  refine VG (VT (vs := D.1.cells a' c') (cs' := D.1.cells a' c') 2 Z Z Z Z (NR _) Z Z Z ?_)
  refine xkn ?_
  exact CR (Ret.cell 8 Z Z Z (RdL.many (ds := D.1.cells a' c') 2 Z Z) (IP 1 Z Imp.nil).ent ⟨a', c', H, by rw [hM], Z, by rw [hM]; exact hH⟩)
end
end Nd
namespace Nd
open Go Vg T Api Kv Ch Lg Rd Win Adm Sched Conf Rep Rk
attribute [local irreducible] VO VC VA
structure XAct.Byte (x : XAct) : Prop where
 kind : x.kind ≤ 255
 a : x.a ≤ 255
 b : x.b ≤ 255
 c : x.c ≤ 255
def XAct.ep (x : XAct) (n : NdM) : Int := if 240 ≤ x.c then n.ch.epoch - 1 else n.ch.epoch
def XAct.ch (C : ConfM) (n : NdM) (x : XAct) : ChM := chainM n.ch x.a x.b C.nodes
def XAct.call (x : XAct) (e : Int) : FrameM := { FrameM.zero with kind := 1, epoch := e, client := (x.a : Int) % 7, seq := 1 + (x.b : Int) % 6, try_ := 1 + (x.b : Int) / 6 % 4, cls := (x.b : Int) / 24 % 5, deadline := (x.c : Int) % 32, op := x.op }
def ackX (e i g h : Int) : FrameM := { FrameM.zero with kind := 5, epoch := e, index := i, grant := g, have_ := h }
def fwdX (e : Int) (y : EntryM) : FrameM := { FrameM.zero with kind := 4, epoch := e, entry := y }
def basX (e i : Int) : FrameM := { FrameM.zero with kind := 6, epoch := e, index := i }
def cfgX (c : ChM) : FrameM := { FrameM.zero with kind := 8, cepoch := c.epoch, drain := c.drain }
def surX (e i : Int) : FrameM := { FrameM.zero with kind := 10, epoch := e, index := i }
def XAct.act (C : ConfM) (n : NdM) (x : XAct) (xms : List MemM) : Int × FrameM × List MemM :=
 if x.kind % 14 = 4 then (x.from_, x.f, xms)
 else if x.kind % 14 = 5 then (nextOf n.ch n.id, ackX (x.ep n) ((x.a : Int) % 24) ((x.b : Int) % 40) ((x.c : Int) % 24), [])
 else if x.kind % 14 = 6 then (prevOf n.ch n.id, fwdX (x.ep n) ⟨n.log.length + 1, (x.a : Int) % 6, 1 + (x.b : Int) % 12, x.op⟩, [])
 else if x.kind % 14 = 7 then (prevOf n.ch n.id, basX (x.ep n) ((x.a : Int) % 8), [])
 else if x.kind % 14 = 8 then (16, cfgX (x.ch C n), (x.ch C n).ms)
 else if x.kind % 14 = 9 then (16, surX (x.ep n) ((x.a : Int) % 12), [])
 else if x.kind % 14 = 13 then (if (x.a : Int) % 2 = 0 then (16, x.f, xms) else (prevOf n.ch n.id, x.f, xms))
 else (32, x.call (x.ep n), [])
def memA (g : MemP) (ms : List MemM) (a0 : Option Addr) (ms0 : List MemM) (a1 : Option Addr) (ms1 : List MemM) (H : HP) : Prop := H = slH memT 2 g.1 ms.length g.2 (flat memC ms) ∨ (H = hpure True ∧ ((g.1 = a0 ∧ ms = ms0) ∨ (g.1 = a1 ∧ ms = ms1) ∨ ms = []))
def memK (k : Int) (g : MemP) (ms : List MemM) (a0 : Option Addr) (ms0 : List MemM) (a1 : Option Addr) (ms1 : List MemM) (H : HP) : Prop := (k = 8 ∧ memA g ms a0 ms0 a1 ms1 H) ∨ (H = hpure True ∧ ((g.1 = a1 ∧ ms = ms1) ∨ ms = []))
theorem memK.a {k : Int} {g : MemP} {ms : List MemM} {a0 : Option Addr} {ms0 : List MemM} {a1 : Option Addr} {ms1 : List MemM} {H : HP} (h : memK k g ms a0 ms0 a1 ms1 H) : memA g ms a0 ms0 a1 ms1 H := h.elim And.right fun k => .inr ⟨k.1, .inr k.2⟩
def actS (r : Int × FrameM × List MemM) (a0 : Option Addr) (ms0 : List MemM) (a1 : Option Addr) (ms1 : List MemM) (v : Value) (L : List HP) : Prop := ∃ (g : MemP) (H : HP), v = .tuple #[.int .i64 r.1, .agg (fgC r.2.1 (g.1, r.2.2.length, g.2)).toArray] ∧ L = [H] ∧ memK r.2.1.kind g r.2.2 a0 ms0 a1 ms1 H
def actR (r : Int × FrameM × List MemM) (a0 : Option Addr) (ms0 : List MemM) (a1 : Option Addr) (ms1 : List MemM) (v : Value) (L : List HP) : Prop := ∃ (g : MemP) (H : HP), v = .tuple #[.int .i64 r.1, .agg (fgC r.2.1 (g.1, r.2.2.length, g.2)).toArray] ∧ L = [H] ∧ memA g r.2.2 a0 ms0 a1 ms1 H
section
variable {p : Nat} {C : ConfM} {ca : Option Addr} {cc : Nat} {m : MemP} {n : NdM}
def outK (n : NdM) (k : Nat) : NdM := { n with out := List.replicate k (0, FrameM.zero) }
theorem nm0_of {Fr : Nat → Prop} {w : World} (h : SatIn Fr [nm0 p C ca cc m n] w) : ∃ k y, NmIn Fr w p C ca cc m (outK n k) y := by
 obtain ⟨⟨y, on⟩, h⟩ := h.ex
 have h := h.sep
 refine ⟨on, y, ?_, h.at_ 1 Z, h.at_ 2 Z, h.at_ 3 Z⟩
 have hb := h.blk 0 rfl
 have e : nmCs C ca cc m (outK n on) y = nmC0 C ca cc m n y on := by
  unfold nmCs nmC0 outK
  rw [List.length_replicate]
 rw [e]; exact hb
theorem frameS_spec (x : XAct) (xms : List MemM) (hx : x.mn = xms.length) (hb : x.Byte) (h : SatIn Fr [nm0 p C ca cc m n] w) (hm : RwIn memC 2 Fr w m.1 n.ch.ms) (hl : n.ch.ms.length ≤ 1000) (he0 : 0 ≤ n.ch.epoch) (he1 : n.ch.epoch ≤ 4398046511104) (hno : 1 ≤ C.nodes) (hlog : n.log.length ≤ 4096) :
  Tri Tryz.prog 30 [.agg (xaC x).toArray, .pointer (some ⟨p, 0, none⟩)] Fr w [] (actS (x.act C n xms) m.1 n.ch.ms x.ma xms) := by
 obtain ⟨k, y, hn⟩ := nm0_of h
 have hnb := hn.blk
 have b0 := hb.kind; have b1 := hb.a; have b2 := hb.b; have b3 := hb.c
 refine TF 140 Tryz.func30 Z yn tabOk Z Z ?_
 refine CS (CG (VG (VB (vs := xaC x) Z fun xb => VG (VO.alloc Z fun d => VG (VN ?_)))))
 refine CS (CD (ts 0 12 .nil) yn yq ?_)
 refine xgg ?_
 refine VA.go (AI Z (light_conv x.a Z Z Z Z Z (i64_in _ ye ye)) ?_)
 refine xgg ?_
 refine VA.go (AI Z (light_conv x.b Z Z Z Z Z (i64_in _ ye ye)) ?_)
 refine xgg ?_
 refine VA.go (AI Z (light_conv x.c Z Z Z Z Z (i64_in _ ye ye)) ?_)
 refine xem ?_
 refine CS (CD (ts 0 8 (ts 9 8 (.only 8 (.only 17 (ts 18 2 .nil))))) yn yq ?_)
 refine xnk ?_
 refine xnl ?_
 refine xnk ?_
 refine xnl ?_
 refine xnk ?_
 refine VA.go (AR (fun Fr w hF hs hS => rprev_spec Fr w (c := n.ch) (RwIn.of hm hF hs) ye n.id) Z Z ycy ?_)
 refine VA.go (AR (fun Fr w hF hs hS => rnext1_spec Fr w (c := n.ch) (RwIn.of hm hF hs) ye n.id) Z Z ycy ?_)
 refine xem ?_
 refine CS (CG (VG (VD Z Z (RdL.blk hnb Z) (VG (VN ?_)))))
 show VC _ _ _ _ _
 refine CS ?_
 refine VC.meetS (σ := Unit) (fun _ => [(1, pV p), (2, pV xb), (5, pV d), (6, .int .i64 (x.a : Int)), (7, .int .i64 (x.b : Int)), (8, .int .i64 (x.c : Int)), (9, .int .i64 (prevOf n.ch n.id)), (10, .int .i64 (nextOf n.ch n.id)), (11, .int .i64 (x.ep n))]) (fun _ => [pt d (fmc fmz) frT, pt xb (xaC x) xaT]) (fun _ => True) ?_ ?_
 ·refine xkn ?_
  refine CP (p := (240 : Int) ≤ (x.c : Int)) Z (fun h1 => ?_) (fun h1 => CK ?_)
  ·refine CG ?_
   refine xkn ?_
   refine VG (VO.sub' Z Z (by show -9223372036854775808 ≤ n.ch.epoch - 1; omega) (by show n.ch.epoch - 1 ≤ 9223372036854775807; omega) ?_)
   refine xfu ?_
   exact ⟨(), trivial, SC Z (SC Z (SC Z (SC Z (SC Z (SC Z (SC Z (SC Z (SC (by rw [XAct.ep, if_pos ye]; rfl) (SN _))))))))), ER⟩
  ·exact ⟨(), trivial, SC Z (SC Z (SC Z (SC Z (SC Z (SC Z (SC Z (SC Z (SC (by rw [XAct.ep, if_neg ye]; rfl) (SN _))))))))), ER⟩
 rintro _ -
 refine CS ?_
 refine VC.meetS (σ := Unit) (fun _ => [(2, pV xb), (5, pV d), (6, .int .i64 (x.a : Int)), (7, .int .i64 (x.b : Int)), (8, .int .i64 (x.c : Int)), (11, .int .i64 (x.ep n))]) (fun _ => [pt d (fmc fmz) frT, pt xb (xaC x) xaT]) (fun _ => x.act C n xms = (32, x.call (x.ep n), [])) ?_ ?_
 ·refine xgw ?_
  refine xgu ?_
  refine xnm ?_
  refine xfu ?_
  show VC _ _ _ _ _
  refine xje ?_
  refine xkn ?_
  refine CE (i := (x.kind : Int) % 14) (j := 4) Z (fun k4 => ?_) (fun k4 => ?_)
  ·have hA : x.act C n xms = (x.from_, x.f, xms) := by rw [XAct.act, if_pos ye]
   refine CS (CD (ts 0 5 (.only 5 .nil)) yn yq ?_)
   refine xgg ?_
   refine xnn ?_
   refine xno ?_
   show VC _ _ _ _ _
   exact xnp
  have k4' : ¬ x.kind % 14 = 4 := by omega
  refine xkn ?_
  refine CE (i := (x.kind : Int) % 14) (j := 5) Z (fun k5 => ?_) (fun k5 => ?_)
  ·have hA : x.act C n xms = (nextOf n.ch n.id, ackX (x.ep n) ((x.a : Int) % 24) ((x.b : Int) % 40) ((x.c : Int) % 24), []) := by rw [XAct.act, if_neg k4', if_pos ye]
   refine xgw ?_
   refine xnm ?_
   refine xnm ?_
   refine xnm ?_
   refine VG (VI (LB (pv := [(0, .int .i64 5), (1, .int .i64 (x.ep n)), (12, .int .i64 ((x.a : Int) % 24)), (13, .int .i64 ((x.b : Int) % 40)), (14, .int .i64 ((x.c : Int) % 24))]) (fgC (ackX (x.ep n) ((x.a : Int) % 24) ((x.b : Int) % 40) ((x.c : Int) % 24)) mem0) Z Z Z yn Z) ?_)
   refine VG (VT (vs := fgC (ackX (x.ep n) ((x.a : Int) % 24) ((x.b : Int) % 40) ((x.c : Int) % 24)) mem0) (cs' := fgC (ackX (x.ep n) ((x.a : Int) % 24) ((x.b : Int) % 40) ((x.c : Int) % 24)) mem0) 0 Z Z Z Z (NR _) Z Z Z (VG (VN ?_)))
   show VC _ _ _ _ _
   exact CR (Ret.tmpCell 4 5 Z Z Z Z (RdL.many (ds := fgC (ackX (x.ep n) ((x.a : Int) % 24) ((x.b : Int) % 40) ((x.c : Int) % 24)) mem0) 0 Z Z) (Imp.hp Imp.nil).ent ⟨(none, 0), hpure True, by rw [hA]; rfl, Z, .inr ⟨rfl, by rw [hA]; exact .inr Z⟩⟩)
  have k5' : ¬ x.kind % 14 = 5 := by omega
  refine xkn ?_
  refine CE (i := (x.kind : Int) % 14) (j := 6) Z (fun k6 => ?_) (fun k6 => ?_)
  ·have hA : x.act C n xms = (prevOf n.ch n.id, fwdX (x.ep n) ⟨n.log.length + 1, (x.a : Int) % 6, 1 + (x.b : Int) % 12, x.op⟩, []) := by rw [XAct.act, if_neg k4', if_neg k5', if_pos ye]
   have hb12 : 0 ≤ (x.b : Int) % 12 ∧ (x.b : Int) % 12 < 12 := ⟨Int.emod_nonneg _ yy, Int.emod_lt_of_pos _ yy⟩
   refine CS (CD (ts 0 3 (ts 5 7 (.only 3 (.take 4 (ts 12 3 (.only 15 .nil)))))) yn yq ?_)
   refine xnq ?_
   refine xnq ?_
   refine xdq ?_
   refine VA.go (VA.ldA 1 x.op.cells Z Z Z Z Z ?_)
   refine VA.go (AR (fun Fr w hF hs hS => nlast_spec Fr w (hn.of' hF hs)) Z Z yr ?_)
   refine VA.go (AP Z Z Z (by show -9223372036854775808 ≤ (n.log.length : Int) + 1; omega) (by show (n.log.length : Int) + 1 ≤ 9223372036854775807; omega) ?_)
   refine VA.go (AI Z (LB (pv := [(0, .int .i64 ((outK n k).log.length + 1)), (1, .int .i64 ((x.a : Int) % 6)), (2, .int .i64 (1 + (x.b : Int) % 12)), (3, .agg x.op.cells.toArray)]) (entC ⟨n.log.length + 1, (x.a : Int) % 6, 1 + (x.b : Int) % 12, x.op⟩) Z Z Z yn Z) ?_)
   refine VA.go (AI Z (LB (pv := [(0, .int .i64 4), (1, .int .i64 (x.ep n)), (10, .agg (entC ⟨n.log.length + 1, (x.a : Int) % 6, 1 + (x.b : Int) % 12, x.op⟩).toArray)]) (fgC (fwdX (x.ep n) ⟨n.log.length + 1, (x.a : Int) % 6, 1 + (x.b : Int) % 12, x.op⟩) mem0) Z Z Z yn Z) ?_)
   refine VA.go (AT (vs := fgC (fwdX (x.ep n) ⟨n.log.length + 1, (x.a : Int) % 6, 1 + (x.b : Int) % 12, x.op⟩) mem0) (cs' := fgC (fwdX (x.ep n) ⟨n.log.length + 1, (x.a : Int) % 6, 1 + (x.b : Int) % 12, x.op⟩) mem0) 0 Z Z Z Z Z (NR _) Z Z Z yr (VA.go (AN ?_)))
   show VC _ _ _ _ _
   exact CR (Ret.tmpCell 4 5 Z Z Z Z (RdL.many (ds := fgC (fwdX (x.ep n) ⟨n.log.length + 1, (x.a : Int) % 6, 1 + (x.b : Int) % 12, x.op⟩) mem0) 0 Z Z) (Imp.hp Imp.nil).ent ⟨(none, 0), hpure True, by rw [hA]; rfl, Z, .inr ⟨rfl, by rw [hA]; exact .inr Z⟩⟩)
  have k6' : ¬ x.kind % 14 = 6 := by omega
  refine xkn ?_
  refine CE (i := (x.kind : Int) % 14) (j := 7) Z (fun k7 => ?_) (fun k7 => ?_)
  ·have hA : x.act C n xms = (prevOf n.ch n.id, basX (x.ep n) ((x.a : Int) % 8), []) := by rw [XAct.act, if_neg k4', if_neg k5', if_neg k6', if_pos ye]
   refine xgw ?_
   refine xnm ?_
   refine VG (VI (LB (pv := [(0, .int .i64 6), (1, .int .i64 (x.ep n)), (12, .int .i64 ((x.a : Int) % 8))]) (fgC (basX (x.ep n) ((x.a : Int) % 8)) mem0) Z Z Z yn Z) ?_)
   refine VG (VT (vs := fgC (basX (x.ep n) ((x.a : Int) % 8)) mem0) (cs' := fgC (basX (x.ep n) ((x.a : Int) % 8)) mem0) 0 Z Z Z Z (NR _) Z Z Z (VG (VN ?_)))
   show VC _ _ _ _ _
   exact CR (Ret.tmpCell 4 5 Z Z Z Z (RdL.many (ds := fgC (basX (x.ep n) ((x.a : Int) % 8)) mem0) 0 Z Z) (Imp.hp Imp.nil).ent ⟨(none, 0), hpure True, by rw [hA]; rfl, Z, .inr ⟨rfl, by rw [hA]; exact .inr Z⟩⟩)
  have k7' : ¬ x.kind % 14 = 7 := by omega
  refine xkn ?_
  refine CE (i := (x.kind : Int) % 14) (j := 8) Z (fun k8 => ?_) (fun k8 => ?_)
  ·have hA : x.act C n xms = (16, cfgX (x.ch C n), (x.ch C n).ms) := by rw [XAct.act, if_neg k4', if_neg k5', if_neg k6', if_neg k7', if_pos ye]
   refine CS (CD (ts 0 11 (.only 11 (ts 12 2 (.only 14 .nil)))) yn yq ?_)
   refine xnl ?_
   refine xnk ?_
   refine VA.go (AO (OC (Lc := []) Z (.refl _) (fun Fr w hF hs hS => chain_spec Fr w (c := n.ch) (RwIn.of hm hF hs) hl x.a x.b C.nodes ye ye hno he0 he1)) Z ?_ ?_)
   ·rintro _ _ ⟨_, ⟨a', c', H, rfl, rfl, hH⟩, rfl⟩
    exact ycy
   rintro _ _ ⟨_, ⟨a', c', H, rfl, rfl, hH⟩, rfl⟩
   refine VA.go (AI Z (LB (pv := [(0, .int .i64 8), (11, .agg ((x.ch C n).cells a' c').toArray)]) (fgC (cfgX (x.ch C n)) (a', (x.ch C n).ms.length, c')) Z Z Z yn Z) ?_)
   refine VA.go (AT (vs := fgC (cfgX (x.ch C n)) (a', (x.ch C n).ms.length, c')) (cs' := fgC (cfgX (x.ch C n)) (a', (x.ch C n).ms.length, c')) 1 Z Z Z Z Z (NR _) Z Z Z yr (VA.go (AN ?_)))
   show VC _ _ _ _ _
   refine CR (Ret.tmpCell 4 5 Z Z Z Z (RdL.many (ds := fgC (cfgX (x.ch C n)) (a', (x.ch C n).ms.length, c')) 1 Z Z) (IP 0 Z Imp.nil).ent ⟨(a', c'), H, by rw [hA], Z, ?_⟩)
   rw [hA]
   rcases hH with h | ⟨h1, h2, h3⟩
   ·exact .inl ⟨rfl, .inl h⟩
   ·exact .inl ⟨rfl, .inr ⟨h1, .inl ⟨h2, h3⟩⟩⟩
  have k8' : ¬ x.kind % 14 = 8 := by omega
  refine xkn ?_
  refine CE (i := (x.kind : Int) % 14) (j := 9) Z (fun k9 => ?_) (fun k9 => ?_)
  ·have hA : x.act C n xms = (16, surX (x.ep n) ((x.a : Int) % 12), []) := by rw [XAct.act, if_neg k4', if_neg k5', if_neg k6', if_neg k7', if_neg k8', if_pos ye]
   refine xgw ?_
   refine xnm ?_
   refine VG (VI (LB (pv := [(0, .int .i64 10), (1, .int .i64 (x.ep n)), (12, .int .i64 ((x.a : Int) % 12))]) (fgC (surX (x.ep n) ((x.a : Int) % 12)) mem0) Z Z Z yn Z) ?_)
   refine VG (VT (vs := fgC (surX (x.ep n) ((x.a : Int) % 12)) mem0) (cs' := fgC (surX (x.ep n) ((x.a : Int) % 12)) mem0) 0 Z Z Z Z (NR _) Z Z Z (VG (VN ?_)))
   show VC _ _ _ _ _
   exact CR (Ret.tmpCell 4 5 Z Z Z Z (RdL.many (ds := fgC (surX (x.ep n) ((x.a : Int) % 12)) mem0) 0 Z Z) (Imp.hp Imp.nil).ent ⟨(none, 0), hpure True, by rw [hA]; rfl, Z, .inr ⟨rfl, by rw [hA]; exact .inr Z⟩⟩)
  have k9' : ¬ x.kind % 14 = 9 := by omega
  refine xkn ?_
  refine CE (i := (x.kind : Int) % 14) (j := 13) Z (fun k13 => ?_) (fun k13 => CK ?_)
  rotate_left
  ·exact ⟨(), by rw [XAct.act, if_neg k4', if_neg k5', if_neg k6', if_neg k7', if_neg k8', if_neg k9', if_neg ye], sbZ, ER⟩
  have hA0 : x.act C n xms = if (x.a : Int) % 2 = 0 then (16, x.f, xms) else (prevOf n.ch n.id, x.f, xms) := by rw [XAct.act, if_neg k4', if_neg k5', if_neg k6', if_neg k7', if_neg k8', if_neg k9', if_pos ye]
  refine xkn ?_
  refine xnm ?_
  refine xkn ?_
  refine CE (i := (x.a : Int) % 2) (j := 0) Z (fun k0 => ?_) (fun k0 => CK ?_)
  ·have hA : x.act C n xms = (16, x.f, xms) := by rw [hA0, if_pos k0]
   refine CS (CD (ts 0 3 (.only 3 .nil)) yn yq ?_)
   refine xnn ?_
   refine xno ?_
   show VC _ _ _ _ _
   exact xnp
  ·have hA : x.act C n xms = (prevOf n.ch n.id, x.f, xms) := by rw [hA0, if_neg k0]
   refine CS (CD (ts 0 4 (.only 4 .nil)) yn yq ?_)
   refine xnn ?_
   refine xno ?_
   show VC _ _ _ _ _
   exact xnp
 rintro _ hA
 have hb6 : 0 ≤ (x.b : Int) % 6 ∧ (x.b : Int) % 6 < 6 := ⟨Int.emod_nonneg _ yy, Int.emod_lt_of_pos _ yy⟩
 have hb4 : 0 ≤ (x.b : Int) / 6 % 4 ∧ (x.b : Int) / 6 % 4 < 4 := ⟨Int.emod_nonneg _ yy, Int.emod_lt_of_pos _ yy⟩
 refine CS (CD (ts 0 19 (.only 19 .nil)) yn yq ?_)
 refine xnq ?_
 refine xnq ?_
 refine xdq ?_
 refine VA.go (AI Z (light_quo _ Z Z ye yy (i64_in _ ye ye)) ?_)
 refine xnq ?_
 refine xdq ?_
 refine VA.go (AI Z (light_quo _ Z Z ye yy (i64_in _ ye ye)) ?_)
 refine xnq ?_
 refine xnq ?_
 refine VA.go (VA.ldA 1 x.op.cells Z Z Z Z Z ?_)
 refine VA.go (AI Z (LB (pv := [(0, .int .i64 1), (1, .int .i64 (x.ep n)), (2, .int .i64 ((x.a : Int) % 7)), (3, .int .i64 (1 + (x.b : Int) % 6)), (4, .int .i64 (1 + (x.b : Int) / 6 % 4)), (5, .int .i64 ((x.b : Int) / 24 % 5)), (6, .int .i64 ((x.c : Int) % 32)), (7, .agg x.op.cells.toArray)]) (fgC (x.call (x.ep n)) mem0) Z Z Z yn Z) ?_)
 refine VA.go (AT (vs := fgC (x.call (x.ep n)) mem0) (cs' := fgC (x.call (x.ep n)) mem0) 0 Z Z Z Z Z (NR _) Z Z Z yr (VA.go (AN ?_)))
 show VC _ _ _ _ _
 exact CR (Ret.tmpCell 4 5 Z Z Z Z (RdL.many (ds := fgC (x.call (x.ep n)) mem0) 0 Z Z) (Imp.hp Imp.nil).ent ⟨(none, 0), hpure True, by rw [hA]; rfl, Z, .inr ⟨rfl, by rw [hA]; exact .inr Z⟩⟩)
theorem frame_spec (x : XAct) (xms : List MemM) (hx : x.mn = xms.length) (hb : x.Byte) (h : SatIn Fr [nm0 p C ca cc m n] w) (hm : RwIn memC 2 Fr w m.1 n.ch.ms) (hl : n.ch.ms.length ≤ 1000) (he0 : 0 ≤ n.ch.epoch) (he1 : n.ch.epoch ≤ 4398046511104) (hno : 1 ≤ C.nodes) (hlog : n.log.length ≤ 4096) :
  Tri Tryz.prog 30 [.agg (xaC x).toArray, .pointer (some ⟨p, 0, none⟩)] Fr w [] (actR (x.act C n xms) m.1 n.ch.ms x.ma xms) := by
 have T := frameS_spec Fr w x xms hx hb h hm hl he0 he1 hno hlog
 exact ⟨T.callable, fun hl hs => Calls.mono (T.calls hl hs) fun e w' ⟨v, L', h1, ⟨g, H, e1, e2, h2⟩, h3, h4⟩ => ⟨v, L', h1, ⟨g, H, e1, e2, h2.a⟩, h3, h4⟩⟩
end
end Nd
namespace Nd
open Go Vg Go.ChangeShapes Go.WideShapes Go.ChangeAt Go.RowKit Sched Conf Adm Api
structure XAct.In (Fr : Nat → Prop) (w : World) (x : XAct) : Prop where
 byte : x.Byte
 idx : -9223372036854775808 ≤ x.f.entry.index ∧ x.f.entry.index ≤ 9223372036854775807
 ms : ∃ xms : List MemM, x.mn = xms.length ∧ RwIn memC 2 Fr w x.ma xms
theorem wf_i64 {a : Int} (w : (Lit.int .i64 a).wf = true) : -9223372036854775808 ≤ a ∧ a ≤ 9223372036854775807 := by
 simp [Lit.wf, IntKind.min, IntKind.max, IntKind.signed, IntKind.bits] at w; omega
theorem memFlat : flatT Tryz.prog 2 33 = some [3, 3] := by kernel_rfl
theorem leaf_mem {H : Type} {enc : TypeId × Value → H} {w : World} {base : Nat} {spare : Nat → Bool} {held : Bool} {cs : List Value} (hl : cs.length = 2)
  (h3 : ∀ (i : Nat) (v : Value) (u : TypeId), cs[i]? = some v → ([3, 3] : List TypeId)[i]? = some u → Leaf enc Tryz.prog w base spare held u v) : ∃ x : MemM, cs = memC x ∧ True := by
 match cs, hl, h3 with
 | [c1, c2], _, h3 =>
 obtain ⟨n1, rfl, _⟩ := (h3 0 c1 _ rfl rfl).int Tryz.underlying3
 obtain ⟨n2, rfl, _⟩ := (h3 1 c2 _ rfl rfl).int Tryz.underlying3
 exact ⟨(n1, n2), Z, trivial⟩
theorem xactsFlat : flatT Tryz.prog 5 67 = some [5, 5, 5, 5, 3, 9, 9, 3, 3, 3, 3, 3, 3, 3, 3, 3, 3, 9, 9, 3, 3, 9, 3, 3, 3, 3, 3, 3, 3, 9, 9, 3, 3, 34, 3, 3, 3, 3] := by kernel_rfl
theorem leaf_xacts {H : Type} {enc : TypeId × Value → H} {w : World} {base : Nat} {spare : Nat → Bool} {held : Bool} {cs : List Value} (hl : cs.length = 38)
  (h3 : ∀ (i : Nat) (v : Value) (u : TypeId), cs[i]? = some v → ([5, 5, 5, 5, 3, 9, 9, 3, 3, 3, 3, 3, 3, 3, 3, 3, 3, 9, 9, 3, 3, 9, 3, 3, 3, 3, 3, 3, 3, 9, 9, 3, 3, 34, 3, 3, 3, 3] : List TypeId)[i]? = some u → Leaf enc Tryz.prog w base spare held u v) : ∃ x : XAct, cs = xaC x ∧ x.In (fun b => b < w.heap.size) w := by
 match cs, hl, h3 with
 | u0 :: u1 :: u2 :: u3 :: u4 :: u5 :: u6 :: u7 :: u8 :: u9 :: u10 :: u11 :: u12 :: u13 :: u14 :: u15 :: u16 :: u17 :: u18 :: u19 :: u20 :: u21 :: u22 :: u23 :: u24 :: u25 :: u26 :: u27 :: u28 :: u29 :: u30 :: u31 :: u32 :: u33 :: u34 :: u35 :: u36 :: u37 :: [], _, h3 =>
 obtain ⟨n0, rfl, hw0⟩ := (h3 0 u0 _ rfl rfl).int Tryz.underlying5
 obtain ⟨n1, rfl, hw1⟩ := (h3 1 u1 _ rfl rfl).int Tryz.underlying5
 obtain ⟨n2, rfl, hw2⟩ := (h3 2 u2 _ rfl rfl).int Tryz.underlying5
 obtain ⟨n3, rfl, hw3⟩ := (h3 3 u3 _ rfl rfl).int Tryz.underlying5
 obtain ⟨n4, rfl, _⟩ := (h3 4 u4 _ rfl rfl).int Tryz.underlying3
 obtain ⟨s5, rfl, _⟩ := (h3 5 u5 _ rfl rfl).str Tryz.underlying9
 obtain ⟨s6, rfl, _⟩ := (h3 6 u6 _ rfl rfl).str Tryz.underlying9
 obtain ⟨n7, rfl, _⟩ := (h3 7 u7 _ rfl rfl).int Tryz.underlying3
 obtain ⟨n8, rfl, _⟩ := (h3 8 u8 _ rfl rfl).int Tryz.underlying3
 obtain ⟨n9, rfl, _⟩ := (h3 9 u9 _ rfl rfl).int Tryz.underlying3
 obtain ⟨n10, rfl, _⟩ := (h3 10 u10 _ rfl rfl).int Tryz.underlying3
 obtain ⟨n11, rfl, _⟩ := (h3 11 u11 _ rfl rfl).int Tryz.underlying3
 obtain ⟨n12, rfl, _⟩ := (h3 12 u12 _ rfl rfl).int Tryz.underlying3
 obtain ⟨n13, rfl, _⟩ := (h3 13 u13 _ rfl rfl).int Tryz.underlying3
 obtain ⟨n14, rfl, _⟩ := (h3 14 u14 _ rfl rfl).int Tryz.underlying3
 obtain ⟨n15, rfl, _⟩ := (h3 15 u15 _ rfl rfl).int Tryz.underlying3
 obtain ⟨n16, rfl, _⟩ := (h3 16 u16 _ rfl rfl).int Tryz.underlying3
 obtain ⟨s17, rfl, _⟩ := (h3 17 u17 _ rfl rfl).str Tryz.underlying9
 obtain ⟨s18, rfl, _⟩ := (h3 18 u18 _ rfl rfl).str Tryz.underlying9
 obtain ⟨n19, rfl, _⟩ := (h3 19 u19 _ rfl rfl).int Tryz.underlying3
 obtain ⟨n20, rfl, _⟩ := (h3 20 u20 _ rfl rfl).int Tryz.underlying3
 obtain ⟨s21, rfl, _⟩ := (h3 21 u21 _ rfl rfl).str Tryz.underlying9
 obtain ⟨n22, rfl, _⟩ := (h3 22 u22 _ rfl rfl).int Tryz.underlying3
 obtain ⟨n23, rfl, _⟩ := (h3 23 u23 _ rfl rfl).int Tryz.underlying3
 obtain ⟨n24, rfl, _⟩ := (h3 24 u24 _ rfl rfl).int Tryz.underlying3
 obtain ⟨n25, rfl, hw25⟩ := (h3 25 u25 _ rfl rfl).int Tryz.underlying3
 obtain ⟨n26, rfl, _⟩ := (h3 26 u26 _ rfl rfl).int Tryz.underlying3
 obtain ⟨n27, rfl, _⟩ := (h3 27 u27 _ rfl rfl).int Tryz.underlying3
 obtain ⟨n28, rfl, _⟩ := (h3 28 u28 _ rfl rfl).int Tryz.underlying3
 obtain ⟨s29, rfl, _⟩ := (h3 29 u29 _ rfl rfl).str Tryz.underlying9
 obtain ⟨s30, rfl, _⟩ := (h3 30 u30 _ rfl rfl).str Tryz.underlying9
 obtain ⟨n31, rfl, _⟩ := (h3 31 u31 _ rfl rfl).int Tryz.underlying3
 obtain ⟨n32, rfl, _⟩ := (h3 32 u32 _ rfl rfl).int Tryz.underlying3
 obtain ⟨fm, xm, hfm⟩ := h3 33 u33 _ rfl rfl
 obtain ⟨a33, k33, ms33, rfl, _, _, hms⟩ := open_rows (α := MemM) memC (fun _ => True) Tryz.underlying34 memFlat yn yy (fun cs hl hc => leaf_mem hl hc) hfm
 obtain ⟨n34, rfl, _⟩ := (h3 34 u34 _ rfl rfl).int Tryz.underlying3
 obtain ⟨n35, rfl, _⟩ := (h3 35 u35 _ rfl rfl).int Tryz.underlying3
 obtain ⟨n36, rfl, _⟩ := (h3 36 u36 _ rfl rfl).int Tryz.underlying3
 obtain ⟨n37, rfl, _⟩ := (h3 37 u37 _ rfl rfl).int Tryz.underlying3
 have b0 := wf_byte hw0; have b1 := wf_byte hw1; have b2 := wf_byte hw2; have b3 := wf_byte hw3
 refine ⟨⟨n0.toNat, n1.toNat, n2.toNat, n3.toNat, ⟨n4, s5, s6, n7⟩, n8, ⟨n9, n10, n11, n12, n13, n14, n15, ⟨n16, s17, s18, n19⟩, ⟨n20, s21, n22, n23⟩, n24, ⟨n25, n26, n27, ⟨n28, s29, s30, n31⟩⟩, n32, n34, n35, n36, n37⟩, a33, ms33.length, k33⟩, ?_, ⟨by show n0.toNat ≤ 255; omega, by show n1.toNat ≤ 255; omega, by show n2.toNat ≤ 255; omega, by show n3.toNat ≤ 255; omega⟩, wf_i64 hw25, ⟨ms33, Z, ⟨hms⟩⟩⟩
 rw [xaC, Int.toNat_of_nonneg b0.1, Int.toNat_of_nonneg b1.1, Int.toNat_of_nonneg b2.1, Int.toNat_of_nonneg b3.1]
 rfl
theorem open_acts {H : Type} {enc : TypeId × Value → H} {w : World} {base0 base : Nat} {spare : Nat → Bool} {held : Bool} {v : Value} {d : DataW H} {ps : List MemPlace}
  (hval : Value.okWide Tryz.prog w .any base0 60 v) (h : DataW.Trod enc Tryz.prog w base spare held 60 v d ps) :
  ∃ (a : Option Addr) (tc : Nat) (l : List XAct), v = .slice a l.length tc ∧ l.length ≤ 9223372036854775807 ∧ (∀ x ∈ l, x.In (fun b => b < w.heap.size) w) ∧ RwIn xaC 38 (fun b => b < w.heap.size) w a l := by
 obtain ⟨a0, n0, c0, rfl⟩ := okWide_slice Tryz.underlying60 hval
 obtain ⟨fuel, hf⟩ := h
 obtain ⟨a, tc, l, e, h1, h2, h3⟩ := open_rows (α := XAct) xaC (XAct.In (fun b => b < w.heap.size) w) Tryz.underlying60 xactsFlat yn yy (fun cs hl hc => leaf_xacts hl hc) hf
 have hm : maxLen ≤ 9223372036854775807 := by decide
 exact ⟨a, tc, l, e, by omega, h2, ⟨h3⟩⟩
end Nd
namespace Nd
open Go Vg T Api Kv Ch Lg Rd Win Adm Sched Conf Rep Ref16 Rk
structure LawI (C : ConfM) (k : Nat) (R : RepM) (n : NdM) : Prop where
 r : RInv C R
 e : REq R n
 few : few R.adm.sch (6240 * k)
 last : R.rds.last ≤ k
section
variable {C : ConfM} {R : RepM} {n : NdM} {k : Nat}
theorem LawI.new {c : ConfM} (h : c = fitM c) (id : Int) (blank : Bool) {x : NdS} (hx : ndOk (Rep.newR c id blank) x) : LawI c 0 (Rep.newR c id blank) (ofNd (Rep.newR c id blank) x) := by
 obtain ⟨h1, h2⟩ := newR_inv h id blank
 refine ⟨h1, ofNd_eq hx h2, few_new c id blank, ?_⟩
 unfold Rep.newR
 split
 ·exact Int.le_refl _
 split <;> exact Int.le_refl _
theorem LawI.mono {j : Nat} (h : LawI C k R n) (hj : k ≤ j) : LawI C j R n := ⟨h.r, h.e, few_mono h.few ye, by have := h.last; omega⟩
theorem LawI.take (h : LawI C k R n) (hk : k ≤ 100000) (from_ : Int) (f : FrameM) (ms : List MemM) {now : Int} (h0 : 0 ≤ now) : LawI C (k + 1) (takeR R from_ f ms now).1 (n.take C from_ f ms now) :=
 ⟨h.r.take (by have := h.last; omega) from_ f ms now, (h.e.take h.r from_ f ms h0).1, few_mono (few_take h.r h.few from_ f ms now) ye, by have := last_take h.r from_ f ms now; have := h.last; omega⟩
theorem LawI.nw (h : LawI C k R n) (hk : k ≤ 100000) : NdW C 900000000 n := h.e.nw h.r (few_mono h.few ye)
theorem RInv.chE (i : RInv C R) : 0 ≤ R.ch.epoch ∧ R.ch.epoch ≤ 1099511627776 ∧ R.ch.ms.length ≤ 6 := by
 rcases i.ch with h | h
 ·rw [h]; exact ⟨by decide, by decide, by decide⟩
 ·have := chOk_head h; omega
end
def memS (Fr : Nat → Prop) (w : World) (m : MemP) (ms : List MemM) (H : HP) : Prop := (∃ c, H = slH memT 2 m.1 ms.length c (flat memC ms)) ∨ RwIn memC 2 Fr w m.1 ms
theorem memS.rd {X : Cx} {m : MemP} {ms : List MemM} {H : HP} (h : memS X.Fr X.w0 m ms H) {Fr' : Nat → Prop} {w : World} {L : List HP} (hF : ∀ b, X.Fr b → Fr' b) (hs : St X L w) {M : List HP} (hS : SatIn Fr' M w) (i : Nat) (hi : M[i]? = some H) : RwIn memC 2 Fr' w m.1 ms := by
 rcases h with ⟨c, rfl⟩ | h
 ·exact RwIn.slH memC_len (hS.at_ i hi)
 ·exact h.of hF hs
def memP (Fr : Nat → Prop) (w : World) (m : MemP) (ms : List MemM) (H H2 : HP) : Prop := memS Fr w m ms H ∨ memS Fr w m ms H2
theorem memP.rd {X : Cx} {m : MemP} {ms : List MemM} {H H2 : HP} (h : memP X.Fr X.w0 m ms H H2) {Fr' : Nat → Prop} {w : World} {L : List HP} (hF : ∀ b, X.Fr b → Fr' b) (hs : St X L w) {M : List HP} (hS : SatIn Fr' M w) (i j : Nat) (hi : M[i]? = some H) (hj : M[j]? = some H2) : RwIn memC 2 Fr' w m.1 ms := by
 rcases h with h | h
 ·exact h.rd hF hs hS i hi
 ·exact h.rd hF hs hS j hj
theorem memA.p {Fr : Nat → Prop} {w : World} {m g : MemP} {ms ms0 ms1 : List MemM} {a1 : Option Addr} {H H2 : HP} (h : memA g ms m.1 ms0 a1 ms1 H2) (h0 : memS Fr w m ms0 H) (h1 : RwIn memC 2 Fr w a1 ms1) : memP Fr w g ms H H2 := by
 rcases h with h | ⟨_, ⟨a, b⟩ | ⟨a, b⟩ | a⟩
 ·exact .inr (.inl ⟨_, h⟩)
 ·refine .inl ?_
  rcases h0 with ⟨c, h0⟩ | h0
  ·exact .inl ⟨c, by rw [a, b]; exact h0⟩
  ·exact .inr (by rw [a, b]; exact h0)
 ·exact .inl (.inr (by rw [a, b]; exact h1))
 ·exact .inl (.inr (by rw [a]; exact RwIn.nil))
theorem memP.ite {Fr : Nat → Prop} {w : World} {m g : MemP} {ms ms0 : List MemM} {H H2 : HP} (h0 : memP Fr w m ms0 H H2) (h : memP Fr w g ms H H2) (b : Prop) [Decidable b] : memP Fr w (if b then g else m) (if b then ms else ms0) H H2 := by
 by_cases hb : b
 ·rw [if_pos hb, if_pos hb]; exact h
 ·rw [if_neg hb, if_neg hb]; exact h0
section
variable {C : ConfM} {R : RepM} {n : NdM}
theorem takeR_ch (R : RepM) (from_ : Int) (f : FrameM) (ms : List MemM) (now : Int) : (takeR R from_ f ms now).1.ch = if f.kind = 8 ∧ from_ = 16 ∧ R.ch.epoch < f.cepoch ∧ chE (frCh f ms) = 0 then frCh f ms else R.ch := by
 have fin : ∀ Q : RepM, Q.finishR.ch = Q.ch := fun Q => by unfold RepM.finishR; split <;> rfl
 have bec : ∀ Q : RepM, Q.becomeR.ch = Q.ch := fun Q => by unfold RepM.becomeR; split <;> rfl
 obtain ⟨T, hT⟩ : ∃ T, T = if f.kind = 8 ∧ from_ = 16 ∧ R.ch.epoch < f.cepoch ∧ chE (frCh f ms) = 0 then frCh f ms else R.ch := ⟨_, rfl⟩
 rw [← hT]
 have no : f.kind ≠ 8 → R.ch = T := fun h => by rw [hT, if_neg (fun k => h k.1)]
 unfold takeR
 split
 ·have no := no ye
  split
  ·exact no
  split
  ·exact no
  split
  ·unfold readR; split <;> exact no
  ·obtain ⟨A, hA, _⟩ := upd_form R f now
   rw [hA]; exact no
 split
 ·rename_i h8
  by_cases h : (from_ = 16 ∧ chE (frCh f ms) = 0) ∧ R.ch.epoch < f.cepoch
  ·rw [if_pos h, hT, if_pos ⟨h8, h.1.1, h.2, h.1.2⟩]
   show (Rep.ent5 R (frCh f ms)).finishR.ch = _
   rw [fin]; unfold Rep.ent5; split <;> rfl
  ·rw [if_neg h, hT, if_neg (fun k => h ⟨⟨k.2.1, k.2.2.2⟩, k.2.2.1⟩)]
 rename_i h1 h8
 have no := no h8
 split
 ·split
  ·unfold forwardR
   split
   ·show (Rep.pushE R f.entry).finishR.becomeR.ch = _
    rw [bec, fin]; exact no
   ·exact no
  ·exact no
 split
 ·split
  ·show (Rep.ack2 R f).ch = _
   unfold Rep.ack2 Rep.ack1; dsimp only; split <;> exact no
  ·exact no
 split
 ·split
  ·show (Rep.baseR R f.index).becomeR.ch = _
   rw [bec]; exact no
  ·exact no
 split
 ·split <;> exact no
 ·exact no
theorem take_ms (e : REq R n) (i : RInv C R) (from_ : Int) (f : FrameM) (ms : List MemM) {now : Int} (h0 : 0 ≤ now) : (n.take C from_ f ms now).ch.ms = if n.enters from_ f ms then ms else n.ch.ms := by
 rw [(e.take i from_ f ms h0).1.ch, takeR_ch]
 by_cases h : n.enters from_ f ms
 ·rw [if_pos h, if_pos ⟨h.1, h.2.1, by rw [← e.ch]; exact h.2.2.1, h.2.2.2⟩]; rfl
 ·rw [if_neg h, if_neg (fun k => h ⟨k.1, k.2.1, by rw [e.ch]; exact k.2.2.1, k.2.2.2⟩), e.ch]
theorem chain_len {c : ChM} (h : c.ms.length ≤ 6) (a b k : Int) : (chainM c a b k).ms.length ≤ 1000 := by
 have f := List.length_filter_le (fun m : MemM => !decide (m.1 = b % k)) c.ms
 have z : chZ.ms.length ≤ 1000 := by decide
 unfold chainM
 split
 ·show 1 ≤ 1000; decide
 ·unfold chainD
  split
  ·unfold withM; repeat' split
   ·exact z
   ·exact z
   ·show (c.ms ++ [_]).length ≤ 1000; rw [List.length_append]; simp; omega
  split
  ·unfold withoutM; split
   ·exact z
   ·show (c.ms.filter _).length ≤ 1000; omega
  split
  ·unfold drainM; repeat' split
   ·exact z
   ·exact z
   ·show c.ms.length ≤ 1000; omega
  ·show c.ms.length ≤ 1000; omega
theorem act_len {x : XAct} {xms : List MemM} (h : n.ch.ms.length ≤ 6) (hx : xms.length ≤ 10) : (x.act C n xms).2.2.length ≤ 1000 := by
 have h0 : ([] : List MemM).length ≤ 1000 := by decide
 unfold XAct.act
 repeat' split
 all_goals first | exact h0 | (show xms.length ≤ 1000; omega) | exact chain_len h _ _ _
theorem act_idx {x : XAct} {xms : List MemM} (hl : n.log.length ≤ 4096) (hx : -9223372036854775808 ≤ x.f.entry.index ∧ x.f.entry.index ≤ 9223372036854775807) : -9223372036854775808 ≤ (x.act C n xms).2.1.entry.index ∧ (x.act C n xms).2.1.entry.index ≤ 9223372036854775807 := by
 have z : -9223372036854775808 ≤ (0 : Int) ∧ (0 : Int) ≤ 9223372036854775807 := ⟨by decide, by decide⟩
 have y : -9223372036854775808 ≤ (n.log.length : Int) + 1 ∧ (n.log.length : Int) + 1 ≤ 9223372036854775807 := ⟨by omega, by omega⟩
 unfold XAct.act
 repeat' split
 all_goals first | exact hx | exact z | exact y
end
structure LawS where
 R : RepM
 n : NdM
 m : MemP
 H : HP
def lawH (r q : Nat) (C : ConfM) (a : Option Addr) (cap : Nat) (s : LawS) (M : List HP) : List HP := repH r s.R :: nm0 q C a cap s.m s.n :: s.H :: intH a cap C.qs :: M
def lawI (Fr : Nat → Prop) (w : World) (C : ConfM) (k : Nat) (s : LawS) : Prop := LawI C k s.R s.n ∧ memS Fr w s.m s.n.ch.ms s.H
theorem bad_ms {x : XAct} {xms : List MemM} (h : x.bad = false) (hx : x.mn = xms.length) : xms.length ≤ 10 := by
 simp only [XAct.bad, Bool.or_eq_false_iff, decide_eq_false_iff_not] at h
 omega
theorem great_no {l : List XAct} {most : Int} (h : greatB l most = false) : (∀ x ∈ l, x.bad = false) ∧ (l.length : Int) ≤ most := by
 simp only [greatB, Bool.or_eq_false_iff, decide_eq_false_iff_not, List.any_eq_false] at h
 exact ⟨fun x hx => by simpa using h.1 x hx, by omega⟩
theorem newT_spec {c : ConfM} {a : Option Addr} {cap : Nat} (hq : IntsIn Fr w a c.qs) (ha : AdOk a) (hcap : c.qs.length ≤ cap) (hf : c = fitM c) {id : Int} (h0 : 0 ≤ id) (h1 : id < c.nodes) (blank : Bool) : Tri Tryz.prog 14 [.agg (c.cells a cap).toArray, .int .i64 id, .bool blank] Fr w []
  (fun v L => ∃ p, v = .tuple #[.pointer (some ⟨p, 0, none⟩), .int .i64 0] ∧ L = [repH p (Rep.newR c id blank)]) := by
 have := Rep.new_spec Fr w c a cap hq ha hcap id blank
 simp only [if_pos (show newOkB c id from ⟨hf, h0, h1⟩)] at this
 exact this
theorem nnewT_spec {c : ConfM} {a : Option Addr} {cap : Nat} (hq : IntsIn Fr w a c.qs) (hf : c = fitM c) {id : Int} (h0 : 0 ≤ id) (h1 : id < c.nodes) (blank : Bool) : Tri Tryz.prog 25 [.agg (c.cells a cap).toArray, .int .i64 id, .bool blank] Fr w []
  (fun v L => ∃ p, v = .tuple #[.pointer (some ⟨p, 0, none⟩), .int .i64 0] ∧ L = [ndH p c a cap (Rep.newR c id blank)]) := by
 have hl : c.qs.length ≤ 1000 := by
  have h2 : c.qs = qFit c.qs := congrArg ConfM.qs hf
  have := qFit_len c.qs
  rw [← h2] at this; omega
 have := Nd.rnew_spec Fr w c a cap hq hl id blank
 simp only [if_pos (show newOkB c id from ⟨hf, h0, h1⟩)] at this
 exact this
end Nd
namespace Nd
open Go Vg T Api Kv Ch Lg Rd Win Adm Sched Conf Rep Ref16 Rk
attribute [local irreducible] VO VC VA
theorem likeNd {Fr : Nat → Prop} {w : World} {q : Nat} {C : ConfM} {ca : Option Addr} {cc : Nat} {m : MemP} {n : NdM} {R : RepM} (e : REq R n) (h : SatIn Fr [nm0 q C ca cc m n] w) (hm : RwIn memC 2 Fr w m.1 n.ch.ms) : ∃ x, NdIn Fr w q C ca cc R x := by
 obtain ⟨⟨y, on⟩, h⟩ := h.ex
 have h := h.sep
 refine ⟨⟨m.1, m.2, n.st, n.bs, y.lp, y.ap, y.rp, y.oa, on, y.oc⟩, ⟨⟨e.st, fun hb => ?_, fun hb => ?_⟩, ?_, ?_, ?_, ?_, ?_⟩⟩
 ·have := e.bs; show n.bs < 0; omega
 ·have := e.bs; show n.bs = R.base; omega
 ·have hb := h.blk 0 rfl
  have e1 : ndCs C ca cc R ⟨m.1, m.2, n.st, n.bs, y.lp, y.ap, y.rp, y.oa, on, y.oc⟩ = nmC0 C ca cc m n y on := by
   unfold ndCs nmC0
   rw [e.id, e.ch, e.since, e.whole, e.done, e.sent, e.limit, e.have_, e.linked]
  rw [e1]; exact hb
 ·show RwIn memC 2 Fr w m.1 R.ch.ms
  rw [← e.ch]; exact hm
 ·have := h.at_ 1 rfl
  rw [← e.log]; exact this
 ·have h2 : SatIn Fr [radH y.ap C ca cc n.adm] w := h.at_ 2 rfl
  have e2 : radH y.ap C ca cc R.adm = radH y.ap C ca cc n.adm := by unfold radH radL radCs; rw [e.adm.sch, e.adm.marks]
  show SatIn Fr [radH y.ap C ca cc R.adm] w
  rw [e2]; exact h2
 ·have := h.at_ 3 rfl
  rw [← e.rds]; exact this
theorem resOk_of {es : List EntryM} (h : LogOk es) (hl : es.length ≤ 4096) : ResOk es := fun Fr w lp hs i h0 h1 =>
 rlres_spec Fr w hs (fun k e he => h.idx he) ye i ye ye
theorem mem_small (c : ChM) (k : Int) : memAt c k < 6 := by
 unfold memAt
 split
 ·rename_i h
  obtain ⟨m, hm⟩ : ∃ m, c.ms[k.toNat]? = some m := ⟨_, GE ye⟩
  rw [hm]
  exact (chOk_mem h.1 hm).2.1
 ·decide
def ofK (f : FrameM) : Prop := f.kind = 4 ∨ f.kind = 5 ∨ f.kind = 6 ∨ f.kind = 10
theorem take_other {R : RepM} {f : FrameM} (hk : ofK f) (he : f.epoch ≠ R.ch.epoch) (from_ : Int) (ms : List MemM) (now : Int) : takeR R from_ f ms now = (R, []) := by
 have kn : R.knownB f = false := by rw [RepM.knownB, beq_eq_false_iff_ne]; exact he
 unfold takeR
 rw [kn]
 rcases hk with h | h | h | h <;> simp [h]
theorem take_31 {R : RepM} {f : FrameM} (hk : ofK f) (ms : List MemM) (now : Int) : takeR R 31 f ms now = (R, []) := by
 have hp : isNodeB 31 R.prevM = false := by
  have : R.prevM < 6 := mem_small _ _
  unfold isNodeB
  rw [beq_eq_false_iff_ne.2 ye, Bool.and_false]
 have hn : isNodeB 31 R.nextM = false := by
  have : R.nextM < 6 := by
   unfold RepM.nextM nextOf
   split
   ·decide
   ·exact mem_small _ _
  unfold isNodeB
  rw [beq_eq_false_iff_ne.2 ye, Bool.and_false]
 unfold takeR
 rw [hp, hn]
 rcases hk with h | h | h | h <;> simp [h]
theorem take_epoch (R : RepM) (from_ : Int) (f : FrameM) (ms : List MemM) (now : Int) : R.ch.epoch ≤ (takeR R from_ f ms now).1.ch.epoch := by
 rw [takeR_ch]
 split
 ·rename_i h
  show R.ch.epoch ≤ f.cepoch
  omega
 ·exact Int.le_refl _
def kk (k : Nat) : Int := if k = 0 then 4 else if k = 1 then 5 else if k = 2 then 6 else 10
theorem kk_of (f : FrameM) (k : Nat) (e : Int) : ofK { f with kind := kk k, epoch := e } := by
 show kk k = 4 ∨ kk k = 5 ∨ kk k = 6 ∨ kk k = 10
 unfold kk
 repeat' split
 all_goals simp
end Nd
namespace Nd
open Go Vg T Api Kv Ch Lg Rd Win Adm Sched Conf Rep
attribute [local irreducible] VO VC VA
theorem light_fld {X : Cx} {e : Env} {S f : Nat} {x : Operand} {flds : Array Field} {fl : Field} {cs : List Value} {ti : TI} {v : Value} (hS : X.P.underlying S = some (.struct flds)) (hf : flds[f]? = some fl) (hx : ev e x = some (.agg cs.toArray)) (ht : tyLook X.tab fl.type = some ti) (ha : ti.und.agg = false) (hv : cs[fl.offset]? = some v) :
  Light X (.field S x f) e v := by
 intro ac hac dst ty pos after guard w
 have h : (Instr.field S (.agg cs.toArray) f).run X.P w = .ok v w := by
  have h1 := part1 (P := X.P) (X.ok.look ht) ha hv w
  unfold Instr.field
  rw [Sem.run_bind, run_underlying hS]
  simp [hf, asAgg, h1]
 simp [execOp, hac.ev hx, h]
def kkC : List Value := [.int .i64 4, .int .i64 5, .int .i64 6, .int .i64 10]
theorem kkC_at {k : Nat} (h : k < 4) : kkC[0 + k * 1]? = some (.int .i64 (kk k)) := by
 rcases (by omega : k = 0 ∨ k = 1 ∨ k = 2 ∨ k = 3) with rfl | rfl | rfl | rfl <;> rfl
abbrev tryF (x : XAct) (k : Nat) (e : Int) : FrameM := { x.f with kind := kk k, epoch := e }
theorem epochs_spec (c : ConfM) (ca : Option Addr) (cc : Nat) (hq : IntsIn Fr w ca c.qs) (hcc : c.qs.length ≤ cc) (la : Option Addr) (lc : Nat) (l : List XAct) (hl : RwIn xaC 38 Fr w la l) (hx : ∀ x ∈ l, x.In Fr w) (hll : l.length ≤ 9223372036854775807) (x : XAct) (hxI : x.In Fr w) :
  Tri Tryz.prog 10 [.agg (c.cells ca cc).toArray, .slice la l.length lc, .agg (xaC x).toArray] Fr w [] (fun v L => v = .bool true ∧ L = []) := by
 refine TF 129 Tryz.func10 Z yn tabOk Z Z ?_
 refine CS (CG (VG (VB (vs := c.cells ca cc) Z fun cb => VG (VB (vs := xaC x) Z fun xb => VG (VN ?_)))))
 refine xfl ?_
 by_cases hbig : 20 < c.qs.length
 ·refine VG (VY 23 true Z (DT ye) ?_)
  refine xfp ?_
  refine VG (VY 27 true Z Z ?_)
  refine xfp ?_
  refine znw ?_
  refine xnr ?_
  refine xdj ?_
  exact xns
 refine VG (VY 23 false Z (DF ye) ?_)
 refine VG (VV (fun Fr w hF hs hS => xgreat_spec Fr w la lc l 40 (hl.of hF hs) hll) Z ?_)
 by_cases hg1 : greatB l 40 = true
 ·refine VG (VY 27 true Z hg1 ?_)
  refine xfp ?_
  refine znw ?_
  refine xnr ?_
  refine xdj ?_
  exact xns
 have hg1 : greatB l 40 = false := by simpa using hg1
 refine VG (VY 27 false Z hg1 ?_)
 refine VG (VL 0 (xaC x) Z Z Z Z ?_)
 refine VG (VO.buildSlice (n := 1) (pv := [(0, .agg (xaC x).toArray)]) (xaC x) Z Z Z Z yy (fill_one Z Z Z) fun sb => ?_)
 refine VG (VV (fun Fr w hF _ hs => xgreat_spec Fr w (some ⟨sb, 0, none⟩) 1 [x] 1 (rw_one (rest := []) xaC_len (by rw [List.append_nil]; exact hs.blk 0 Z)) (by show 1 ≤ _; omega)) Z ?_)
 refine xkn ?_
 refine CC Z (fun h1 => ?_) (fun h1 => CK ?_)
 ·skip
  refine xdj ?_
  refine xnr ?_
  refine xdj ?_
  exact xns
 obtain ⟨hbad, h40⟩ := great_no hg1
 obtain ⟨xbad, -⟩ := great_no h1
 obtain ⟨hyb, hyx, yms, hyn, hyr⟩ := hxI
 have hyl := bad_ms (xbad x (List.mem_singleton.2 rfl)) hyn
 refine CN (L' := [pt xb (xaC x) xaT, pt cb (c.cells ca cc) 24]) (pkZ [1, 1]).ent ?_
 refine xgw ?_
 refine VG (VL 1 (c.cells ca cc) Z Z Z Z ?_)
 refine VG (VK (Lc := []) (fun Fr w hF hs _ => rfit_spec Fr w c ca cc (ints_of hq hF hs)) Z Z ?_)
 rintro _ _ ⟨a, cap, ha, hcap, rfl, rfl⟩
 refine VG (VT (vs := (fitM c).cells a cap) (cs' := (fitM c).cells a cap) 2 Z Z Z Z (NR _) Z Z Z (VG (VN ?_)))
 show VC _ _ _ _ _
 obtain ⟨C, hC⟩ : ∃ C, C = fitM c := ⟨_, rfl⟩
 have hf : C = fitM C := by rw [hC]; exact fit_idem c
 rw [← hC] at hcap ⊢
 have hcb := conf_bounds hf
 refine xmy ?_
 refine VG (VL 2 (C.cells a cap) Z Z Z Z ?_)
 refine VG (VK (Lc := []) (fun Fr w hF hs hS => newT_spec Fr w (ints_sl (hS.at_ 0 Z)) ha hcap hf (Int.le_refl 0) ye false) Z Z ?_)
 rintro _ _ ⟨r, rfl, rfl⟩
 refine xmy ?_
 refine VG (VL 3 (C.cells a cap) Z Z Z Z ?_)
 refine VG (VK (Lc := []) (fun Fr w hF hs hS => nnewT_spec Fr w (ints_sl (hS.at_ 1 Z)) hf (Int.le_refl 0) ye false) Z Z ?_)
 rintro _ _ ⟨q, rfl, rfl⟩
 refine VO.opn 0 Z (HOpn.nd q C a cap (Rep.newR C 0 false)) ?_
 rintro z hz
 obtain ⟨R0, hR0⟩ : ∃ R0, R0 = Rep.newR C 0 false := ⟨_, rfl⟩
 have hI0 := LawI.new hf 0 false hz
 rw [← hR0] at hI0 hz ⊢
 refine VO.ent (L' := lawH r q C a cap ⟨R0, ofNd R0 z, (z.a, z.c), slH memT 2 z.a R0.ch.ms.length z.c (flat memC R0.ch.ms)⟩ [pt xb (xaC x) xaT]) (Imp.ent (Imp.trans (Imp.nd0 (Imp.refl (L := [repH r R0, intH a cap C.qs, pt xb (xaC x) xaT, pt cb (C.cells a cap) 24]))) (pkZ [2, 0, 0, 0, 0]))) ?_
 refine xmy ?_
 refine xgy ?_
 refine zpy ?_
 refine xkn ?_
 refine VC.loop (σ := Nat × LawS) (fun s => [(1, .slice la l.length lc), (5, pV xb), (7, pV r), (9, pV q), (11, .int .i64 s.1)]) (fun s => lawH r q C a cap s.2 [pt xb (xaC x) xaT]) (fun s => s.1 ≤ l.length ∧ lawI Fr w C (2 * s.1) s.2) (fun s => l.length - s.1) (0, ⟨R0, ofNd R0 z, (z.a, z.c), slH memT 2 z.a R0.ch.ms.length z.c (flat memC R0.ch.ms)⟩)
  ⟨Nat.zero_le _, hI0, .inl ⟨_, rfl⟩⟩ (SC rfl (SC rfl (SC rfl (SC rfl (SC rfl (SN _)))))) ER ?_
 rintro ⟨i, ⟨R, n, m, H⟩⟩ ⟨hi, ⟨hI, hM⟩⟩
 dsimp only at hi hI hM ⊢
 refine xkn ?_
 refine CP (p := (i : Int) < (l.length : Int)) Z (fun h2 => CK ?_) (fun h2 => CX ?_)
 rotate_left
 ·refine xkn ?_
  refine xnr ?_
  refine xkn ?_
  exact xns
 have hi2 : i < l.length := by omega
 obtain ⟨y, hxi⟩ : ∃ y, l[i]? = some y := ⟨_, GE hi2⟩
 have hxm := ME hxi
 obtain ⟨hxb, hxx, xms, hxn, hxr⟩ := hx y hxm
 have hxl := bad_ms (hbad y hxm) hxn
 obtain ⟨mb, mo, hma, ra, rc⟩ := RwIn.rd (X := ⟨Tryz.prog, tab, tabOk, 129, Fr, w⟩) hl hxi
 subst hma
 have hw := hI.nw ye
 have hok := hw.ok
 have hce := hI.r.chE
 have hch : n.ch = R.ch := hI.e.ch
 refine CS ?_
 refine VC.meetS (σ := LawS) (fun s => [(1, .slice (some ⟨mb, mo, none⟩) l.length lc), (5, pV xb), (7, pV r), (9, pV q), (11, .int .i64 i)]) (fun s => lawH r q C a cap s [pt xb (xaC x) xaT]) (fun s => lawI Fr w C (2 * (i + 1)) s) ?_ ?_
 rotate_left
 ·rintro s hs
  refine zoc ?_
  exact ⟨(i + 1, s), ⟨hi2, hs⟩, by dsimp only; omega, sbZ, ER⟩
 refine xje ?_
 refine xgw ?_
 refine VG (VK (Lc := []) (fun Fr w hF hs hS => Rep.chain_spec Fr w hI.r.ok (hS.at_ 0 Z)) Z Z ?_)
 rintro _ _ ⟨a1, c1, rfl, rfl⟩
 refine xnt ?_
 refine xfu ?_
 show VC _ _ _ _ _
 refine CN (L' := lawH r q C a cap ⟨R, n, m, H⟩ [pt xb (xaC x) xaT]) (pkZ [1, 1, 1, 1, 1]).ent ?_
 obtain ⟨t, ht⟩ : ∃ t, t = y.act C n xms := ⟨_, rfl⟩
 obtain ⟨from_, f, ms⟩ := t
 have hml : ms.length ≤ 1000 := by have := act_len (C := C) (n := n) (x := y) (by rw [hch]; exact hce.2.2) hxl; rw [← ht] at this; exact this
 have hix : -9223372036854775808 ≤ f.entry.index ∧ f.entry.index ≤ 9223372036854775807 := by have := act_idx (C := C) (n := n) (x := y) (xms := xms) hok.log hxx; rw [← ht] at this; exact this
 refine CS ?_
 refine VC.meetS (σ := MemP × HP × Nat) (fun s => [(1, .slice (some ⟨mb, mo, none⟩) l.length lc), (5, pV xb), (7, pV r), (9, pV q), (11, .int .i64 i), (12, .int .i64 R.ch.epoch), (13, .int .i64 from_), (14, .pointer (some ⟨s.2.2, 0, none⟩))]) (fun s => [nm0 q C a cap m n, repH r R, H, s.2.1, intH a cap C.qs, pt s.2.2 (fgC f (s.1.1, ms.length, s.1.2)) frT, pt xb (xaC x) xaT]) (fun s => memP Fr w s.1 ms H s.2.1) ?_ ?_
 ·refine CG ?_
  refine xff ?_
  refine xeu ?_
  refine VG (VK (Lc := []) (fun Fr w hF hs hS => frame_spec Fr w y xms hxn hxb (hS.at_ 1 Z) (hM.rd hF hs hS 2 Z) (by rw [hch]; omega) (by rw [hch]; omega) (by rw [hch]; omega) ye hok.log) Z Z ?_)
  rintro _ _ ⟨g, HF, rfl, rfl, hA⟩
  rw [← ht]
  rw [← ht] at hA
  refine xkn ?_
  refine VG (VO.alloc Z fun fb => ?_)
  refine VG (VT (vs := fgC f (g.1, ms.length, g.2)) (cs' := fgC f (g.1, ms.length, g.2)) 0 Z Z Z Z (NR _) Z Z Z (VG (VN ?_)))
  exact ⟨(g, HF, fb), hA.p hM hxr, sbZ, (pkZ [3, 2, 2, 1, 1, 0, 0]).ent⟩
 rintro ⟨g, HF, fb⟩ hMF
 dsimp only at hMF ⊢
 have hMP : memP Fr w m n.ch.ms H HF := .inl hM
 obtain ⟨N1, hN1⟩ : ∃ N, N = n.take C from_ f ms 0 := ⟨_, rfl⟩
 obtain ⟨R1, hR1⟩ : ∃ Q, Q = (takeR R from_ f ms 0).1 := ⟨_, rfl⟩
 obtain ⟨m1, hm1⟩ : ∃ m' : MemP, m' = if n.enters from_ f ms then g else m := ⟨_, rfl⟩
 have hM1 := hMP.ite hMF (n.enters from_ f ms)
 have hI1 := hI.take ye from_ f ms (Int.le_refl 0)
 have hep := take_epoch R from_ f ms 0
 rw [← take_ms hI.e hI.r from_ f ms (Int.le_refl 0), ← hN1, ← hm1] at hM1
 rw [← hN1, ← hR1] at hI1
 rw [← hR1] at hep
 refine xgw ?_
 refine VG (VL 5 (fgC f (g.1, ms.length, g.2)) Z Z Z Z ?_)
 refine VG (VK (Lc := [nm0 q C a cap m n]) (fun Fr w hF hs hS => ntake_spec Fr w hok (hMP.rd hF hs hS 1 2 Z Z) from_ f g ms (hMF.rd hF hs hS 1 2 Z Z) ye 0) Z Z ?_)
 rintro _ _ ⟨a2, c2, rfl, rfl⟩
 rw [← hN1, ← hm1]
 refine xfu ?_
 show VC _ _ _ _ _
 refine CN (L' := [repH r R, nm0 q C a cap m1 N1, H, HF, intH a cap C.qs, pt fb (fgC f (g.1, ms.length, g.2)) frT, pt xb (xaC x) xaT]) (pkZ [2, 0, 1, 1, 1, 1, 1]).ent ?_
 refine xgw ?_
 refine VG (VL 5 (fgC f (g.1, ms.length, g.2)) Z Z Z Z ?_)
 refine VG (VK (Lc := [repH r R]) (fun Fr w hF hs hS => take_spec Fr w hI.r.fit (by have := hI.last; omega) from_ f (hMF.rd hF hs hS 1 2 Z Z) ye 0 hix.1 hix.2) Z Z ?_)
 rintro _ _ ⟨b1, d1, rfl, rfl⟩
 rw [← hR1]
 refine xfu ?_
 show VC _ _ _ _ _
 refine CN (L' := [repH r R1, nm0 q C a cap m1 N1, H, HF, intH a cap C.qs, pt xb (xaC x) xaT]) (pkZ [0, 1, 1, 1, 1, 2]).ent ?_
 have hc1 := hI1.r.chE
 have hlast : R1.rds.last < 100000000 := by have := hI1.last; omega
 refine CS (CS (CG ?_))
 refine VG (VK (Lc := []) (fun Fr w hF hs hS => Rep.chain_spec Fr w hI1.r.ok (hS.at_ 0 Z)) Z Z ?_)
 rintro _ _ ⟨a3, c3, rfl, rfl⟩
 refine xnt ?_
 refine xkn ?_
 refine CP (p := R1.ch.epoch < R.ch.epoch) Z (fun h => absurd h ye) (fun _ => CK ?_)
 refine xgw ?_
 refine VG (VI (light_buildArr (pv := [(0, .int .i64 4), (1, .int .i64 5), (2, .int .i64 6), (3, .int .i64 10)]) kkC Z Z Z Z Z) ?_)
 refine VG (VO.alloc Z fun kb => ?_)
 refine VG (VT (vs := kkC) (cs' := kkC) 0 Z Z Z Z (NR _) Z Z Z (VG (VN ?_)))
 show VC _ _ _ _ _
 refine xkn ?_
 refine VC.loop (σ := Nat) (fun k => [(1, .slice (some ⟨mb, mo, none⟩) l.length lc), (5, pV xb), (7, pV r), (9, pV q), (11, .int .i64 i), (15, pV kb), (16, .int .i64 k)]) (fun _ => [repH r R1, nm0 q C a cap m1 N1, H, HF, intH a cap C.qs, pt xb (xaC x) xaT, pt kb kkC 96]) (fun k => k ≤ 4) (fun k => 4 - k) 0 (Nat.zero_le _) sbZ (pkZ [2, 2, 2, 2, 2, 2, 0]).ent ?_
 rintro k hk
 refine xkn ?_
 refine CP (p := (k : Int) < 4) Z (fun h3 => CK ?_) (fun h3 => CX ?_)
 rotate_left
 ·rcases hM1 with k6 | k6
  ·exact ⟨⟨R1, N1, m1, H⟩, ⟨hI1.mono ye, k6⟩, sbZ, (pkZ [0, 0, 0, 1, 1]).ent⟩
  ·exact ⟨⟨R1, N1, m1, HF⟩, ⟨hI1.mono ye, k6⟩, sbZ, (pkZ [0, 0, 1, 1, 1]).ent⟩
 have hk4 : k < 4 := by omega
 refine CS ?_
 refine VC.meetS (σ := Unit) (fun _ => [(1, .slice (some ⟨mb, mo, none⟩) l.length lc), (5, pV xb), (7, pV r), (9, pV q), (11, .int .i64 i), (15, pV kb), (16, .int .i64 k)]) (fun _ => [repH r R1, nm0 q C a cap m1 N1, H, HF, intH a cap C.qs, pt xb (xaC x) xaT, pt kb kkC 96]) (fun _ => True) ?_ ?_
 rotate_left
 ·rintro _ -
  refine zoc ?_
  exact ⟨k + 1, hk4, by dsimp only; omega, sbZ, ER⟩
 refine xje ?_
 have hg0 : (x.ma, x.mn, x.mc) = (x.ma, yms.length, x.mc) := by rw [hyn]
 refine xgw ?_
 refine VG (VL 5 (fgC x.f (x.ma, x.mn, x.mc)) Z Z Z Z ?_)
 refine VG (VO.alloc Z fun yb => ?_)
 refine VG (VT (vs := fgC x.f (x.ma, x.mn, x.mc)) (cs' := fgC x.f (x.ma, x.mn, x.mc)) 0 Z Z Z Z (NR _) Z Z Z (VG (VN ?_)))
 show VC _ _ _ _ _
 refine xgw ?_
 refine VG (VI (light_idxA k Z Z Z Z Z Z hk4) ?_)
 refine VG (VD Z Z (RdL.one (v := .int .i64 (kk k)) 7 Z (kkC_at hk4)) ?_)
 refine VG (VO.st 0 (cs' := fgC (tryF x k x.f.epoch) (x.ma, x.mn, x.mc)) Z Z Z Z (by show 0 < 29; omega) Z Z (VG (VN ?_)))
 rw [hg0]
 show VC _ _ _ _ _
 refine CS ?_
 refine VC.meetS (σ := Int) (fun e => [(1, .slice (some ⟨mb, mo, none⟩) l.length lc), (5, pV xb), (7, pV r), (9, pV q), (11, .int .i64 i), (15, pV kb), (16, .int .i64 k), (17, pV yb)]) (fun e => pt yb (fgC (tryF x k e) (x.ma, yms.length, x.mc)) frT :: [repH r R1, nm0 q C a cap m1 N1, H, HF, intH a cap C.qs, pt xb (xaC x) xaT, pt kb kkC 96]) (fun e => e ≠ R1.ch.epoch) ?_ ?_
 ·refine CS ?_
  refine CD (ts 0 3 (.only 3 (ts 4 2 .nil))) yn yq ?_
  refine xdr ?_
  refine VA.go (AO (OC (Lc := []) (R := fun v L => ∃ a c, v = .agg (R1.ch.cells a c).toArray ∧ L = [slH memT 2 a R1.ch.ms.length c (flat memC R1.ch.ms)]) Z (.refl _) (fun Fr w hF hs hS => Rep.chain_spec Fr w hI1.r.ok (hS.at_ 1 Z))) Z ?_ ?_)
  ·rintro _ _ ⟨_, ⟨a5, c5, rfl, rfl⟩, rfl⟩
   exact yr
  rintro _ _ ⟨_, ⟨a5, c5, rfl, rfl⟩, rfl⟩
  refine VA.go (AI Z (light_fld Tryz.underlying36 Z Z Z Z Z) ?_)
  refine xlx ?_
  refine CE (i := x.f.epoch) (j := R1.ch.epoch) Z (fun h => ?_) (fun h => CK ?_)
  ·refine xfp ?_
   refine VG (VP Z Z (by show -9223372036854775808 ≤ x.f.epoch + 1; omega) (by show x.f.epoch + 1 ≤ 9223372036854775807; omega) ?_)
   refine xkn ?_
   refine VG (VO.st 1 (cs' := fgC (tryF x k (x.f.epoch + 1)) (x.ma, yms.length, x.mc)) Z Z Z Z (by show 1 < 29; omega) Z Z (VG (VN ?_)))
   exact ⟨x.f.epoch + 1, by omega, sbZ, (pkZ [1, 1, 1, 1, 1, 1, 1, 1]).ent⟩
  ·exact ⟨x.f.epoch, h, sbZ, (pkZ [1, 1, 1, 1, 1, 1, 1, 1]).ent⟩
 rintro e he
 have kof := kk_of x.f k
 have hq1 := take_other (kof e) he x.from_ yms 0
 have hq2 := take_31 (R := R1) (kof R1.ch.epoch) yms 0
 refine xgw ?_
 refine VG (VL 0 (fgC (tryF x k e) (x.ma, yms.length, x.mc)) Z Z Z Z ?_)
 refine VG (VO.alloc Z fun zb => ?_)
 refine VG (VT (vs := fgC (tryF x k e) (x.ma, yms.length, x.mc)) (cs' := fgC (tryF x k e) (x.ma, yms.length, x.mc)) 0 Z Z Z Z (NR _) Z Z Z (VG (VN ?_)))
 show VC _ _ _ _ _
 refine xgw ?_
 refine VG (VK (Lc := []) (fun Fr w hF hs hS => Rep.chain_spec Fr w hI1.r.ok (hS.at_ 2 Z)) Z Z ?_)
 rintro _ _ ⟨a6, c6, rfl, rfl⟩
 refine xnt ?_
 refine VG (VO.st 1 (cs' := fgC (tryF x k R1.ch.epoch) (x.ma, yms.length, x.mc)) Z Z Z Z (by show 1 < 29; omega) Z Z (VG (VN ?_)))
 show VC _ _ _ _ _
 refine CN (L' := [repH r R1, nm0 q C a cap m1 N1, H, HF, intH a cap C.qs, pt xb (xaC x) xaT, pt kb kkC 96, pt yb (fgC (tryF x k e) (x.ma, yms.length, x.mc)) frT, pt zb (fgC (tryF x k R1.ch.epoch) (x.ma, yms.length, x.mc)) frT]) (pkZ [3, 3, 3, 3, 3, 3, 3, 2, 1]).ent ?_
 refine xey ?_
 refine VG (VL 7 (fgC (tryF x k e) (x.ma, yms.length, x.mc)) Z Z Z Z ?_)
 refine VG (VK (Lc := [repH r R1]) (fun Fr w hF hs hS => take_spec Fr w hI1.r.fit hlast x.from_ (tryF x k e) (hyr.of hF hs) ye 0 hyx.1 hyx.2) Z Z ?_)
 rw [hq1]
 rintro _ _ ⟨b5, d5, rfl, rfl⟩
 refine VO.ent (L' := [repH r R1, nm0 q C a cap m1 N1, H, HF, intH a cap C.qs, pt xb (xaC x) xaT, pt kb kkC 96, pt zb (fgC (tryF x k R1.ch.epoch) (x.ma, yms.length, x.mc)) frT]) (pkZ [0, 1, 1, 1, 1, 1, 1, 2]).ent ?_
 refine xkn ?_
 refine VG (VY 115 false Z Z ?_)
 refine xkn ?_
 refine VG (VL 7 (fgC (tryF x k R1.ch.epoch) (x.ma, yms.length, x.mc)) Z Z Z Z ?_)
 refine VG (VK (Lc := [repH r R1]) (fun Fr w hF hs hS => take_spec Fr w hI1.r.fit hlast 31 (tryF x k R1.ch.epoch) (hyr.of hF hs) ye 0 hyx.1 hyx.2) Z Z ?_)
 rw [hq2]
 rintro _ _ ⟨b6, d6, rfl, rfl⟩
 refine VO.ent (L' := [repH r R1, nm0 q C a cap m1 N1, H, HF, intH a cap C.qs, pt xb (xaC x) xaT, pt kb kkC 96]) (pkZ [0, 1, 1, 1, 1, 1, 1]).ent ?_
 refine xkn ?_
 refine VG (VY 122 false Z Z ?_)
 refine xkn ?_
 refine VG (VV (fun Fr w hF hs hS => by
  obtain ⟨xx, hxx⟩ := likeNd hI1.e (hS.at_ 1 rfl) (hM1.rd hF hs hS 2 3 rfl rfl)
  exact alikeN_spec Fr w hI1.r.ok (hS.at_ 0 Z) hxx (resOk_of hI1.r.lok (by have := hI1.r.ok.last; have := hI1.r.ok.win.last1; omega))) Z ?_)
 refine zpy ?_
 exact xgr
end Nd
end Go.Proofs.YtbbnmgakmcppdaaGreat
