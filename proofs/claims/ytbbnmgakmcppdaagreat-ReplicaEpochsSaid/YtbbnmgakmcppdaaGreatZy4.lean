/- Texts of the proof, put together and shortened. No condition. -/
import Derived.Test.YtbbnmgakmcppdaaGreatZy3
set_option maxRecDepth 100000
set_option maxHeartbeats 16000000
set_option linter.unusedVariables false
set_option linter.unusedSectionVars false
set_option linter.unusedSimpArgs false
namespace Go.Proofs.YtbbnmgakmcppdaaGreat
variable (Fr : Nat → Prop) (w : World)
namespace Rk
open Go Vg T Api Kv Lg Rd
attribute [local irreducible] VO VC VA
section
variable {p : Nat} {es : List EntryM}
theorem rlres_spec (h : SatIn Fr [rlogH p es] w) (hnum : Num es) (hl : es.length ≤ 5000) (i : Int) (hi0 : -9223372036854775808 < i) (hi1 : i ≤ 9223372036854775807) : Tri Tryz.prog 126 [.pointer (some ⟨p, 0, none⟩), .int .i64 i] Fr w []
  (fun v L => v = .tuple #[.agg (resC ((atI (logRun es).2 i).getD resZ)).toArray, .bool (atI (logRun es).2 i).isSome] ∧ L = []) := by
 obtain ⟨x, hx⟩ := RlogIn.of h
 have hb := hx.blk
 have hrl := logRun_len es
 refine TF 30 Tryz.func126 Z yn tabOk Z Z ?_
 refine CS (CG (VG (VO.alloc Z fun d => ?_)))
 refine xdj ?_
 by_cases h1 : i < 1
 ·refine VG (VY 10 true Z (DT h1) ?_)
  refine zpp ?_
  refine zps ?_
  exact xkv
 refine VG (VY 10 false Z (DF h1) ?_)
 refine xkw ?_
 refine CP (p := (es.length : Int) < i) Z (fun h2 => ?_) (fun h2 => CK ?_)
 ·refine zps ?_
  exact CR (Ret.cellTmp 4 5 Z Z Z (RdL.many 0 Z Z) Z Imp.nil.ent ⟨by rw [atI_none (.inr (by rw [hrl]; exact h2))]; rfl, Z⟩)
 obtain ⟨k, e, hk, hkl, hke, hat⟩ := atI_some (l := (logRun es).2) (i := i) ye ye
 refine xdj ?_
 refine xlh ?_
 rintro _ _ ⟨r, b, bc, hok, hrl2, hrel, rfl, rfl⟩
 refine xfu ?_
 rw [← hrl]
 refine VC.opn 1 Z (HOpn.rl resT b bc (logRun es).2 resC_len) ?_
 rintro r2 ⟨hok2, hv2, hx2⟩
 obtain ⟨tb, tof, htb, hta, hrd⟩ := RL.Ok.ld (t := resT) hok2 (by rw [hx2]; exact hke) (resC_len e)
 rw [← hv2, show r2.v = .slice r2.addr r2.xs.length r2.cap from rfl, hta]
 refine xdj ?_
 refine xet ?_
 refine VG (VI (light_idx k Z Z Z Z Z ye (by rw [hx2]; exact hkl)) ?_)
 refine xjp ?_
 refine VG (VT (vs := resC e) (cs' := resC e) 2 Z Z Z Z (NR _) Z Z Z ?_)
 refine xdj ?_
 exact CR (Ret.cellTmp 4 5 Z Z Z (RdL.many (ds := resC e) 2 Z Z) Z Imp.nil.ent ⟨by rw [hat]; rfl, Z⟩)
theorem last_drop {es : List EntryM} {c : Int} {j : Nat} (h : ∀ k e, j ≤ k → es[k]? = some e → e.client ≠ c) : lastOf es c = lastOf (es.take j) c := by
 have key : ∀ n, lastOf (es.take (j + n)) c = lastOf (es.take j) c := by
  intro n
  induction n with
  | zero => rfl
  | succ n ih =>
   by_cases hj : j + n < es.length
   ·rw [← Nat.add_assoc, List.take_add_one, GE hj]
    show lastOf (es.take (j + n) ++ [es[j + n]]) c = _
    rw [lastOf_snoc, if_neg (h (j + n) _ ye (GE hj)), ih]
   ·rw [← ih, List.take_of_length_le ye, List.take_of_length_le ye]
 have := key es.length
 rwa [List.take_of_length_le ye] at this
theorem rllast_spec (h : SatIn Fr [rlogH p es] w) (hnum : Num es) (hl : es.length ≤ 5000) (c : Int) : Tri Tryz.prog 168 [.pointer (some ⟨p, 0, none⟩), .int .i64 c] Fr w []
  (fun v L => v = .tuple #[.int .i64 (lastOf es c).1, .int .i64 (lastOf es c).2] ∧ L = []) := by
 obtain ⟨x, hx⟩ := RlogIn.of h
 have hb := hx.blk
 refine TF 37 Tryz.func168 Z yn tabOk Z Z ?_
 refine xer ?_
 refine xet ?_
 refine xdj ?_
 refine VC.loop (σ := Nat) (fun j => [(0, pV p), (1, .int .i64 c), (6, .int .i64 ((j : Int) - 1))]) (fun _ => []) (fun j => j ≤ es.length ∧ ∀ k e, j ≤ k → es[k]? = some e → e.client ≠ c) (fun j => j) es.length
  ⟨NR _, fun k e hk he => by rw [List.getElem?_eq_none hk] at he; cases he⟩ sbZ ER ?_
 rintro j ⟨hj, hno⟩
 refine xdj ?_
 refine CP (p := (0 : Int) ≤ (j : Int) - 1) Z (fun h1 => CK ?_) (fun h1 => CX ?_)
 rotate_left
 ·obtain rfl : j = 0 := by omega
  refine xdj ?_
  exact CR (Ret.tmp2 4 5 Z Z Z ER ⟨by rw [last_drop hno]; rfl, Z⟩)
 obtain ⟨i, rfl⟩ : ∃ i, j = i + 1 := ⟨j - 1, by omega⟩
 have hi2 : i < es.length := by omega
 rw [show ((i + 1 : Nat) : Int) - 1 = (i : Int) from by omega]
 obtain ⟨e, he⟩ : ∃ e, es[i]? = some e := ⟨_, GE hi2⟩
 have hei := hnum i e he
 obtain ⟨mb, mo, hma, ra, rc⟩ := RwIn.rd (X := ⟨Tryz.prog, tab, tabOk, 37, Fr, w⟩) hx.ents he
 have hb2 := hb
 rw [hma] at hb2
 refine xli ?_
 refine xff ?_
 refine xdj ?_
 refine xfx ?_
 refine xdj ?_
 refine CE (i := e.client) (j := c) Z (fun h2 => ?_) (fun h2 => CK ?_)
 ·refine xli ?_
  refine xff ?_
  refine xdj ?_
  refine VG (VD Z Z (rc _ _ 2 _ Z Z) ?_)
  refine znv ?_
  refine CR (Ret.tmp2 4 5 Z Z Z ER ⟨?_, Z⟩)
  rw [last_drop hno, List.take_add_one, he]
  show _ = Value.tuple #[.int .i64 (lastOf (es.take i ++ [e]) c).1, .int .i64 (lastOf (es.take i ++ [e]) c).2]
  rw [lastOf_snoc, if_pos h2, hei]
 ·refine xdj ?_
  refine xet ?_
  refine xdj ?_
  exact ⟨i, ⟨by omega, fun k e' hk he' => by
   by_cases hki : k = i
   ·subst hki; rw [he] at he'; cases he'; exact h2
   ·exact hno k e' ye he'⟩, by dsimp only; omega, sbZ, ER⟩
theorem rllook_spec (h : SatIn Fr [rlogH p es] w) (hnum : Num es) (hl : es.length ≤ 5000) (k : ByteArray) : Tri Tryz.prog 179 [.pointer (some ⟨p, 0, none⟩), .string k] Fr w []
  (fun v L => v = .agg (resC (kvLook (logRun es).1 k es.length)).toArray ∧ L = []) := by
 obtain ⟨x, hx⟩ := RlogIn.of h
 have hb := hx.blk
 refine TF 20 Tryz.func179 Z yn tabOk Z Z ?_
 refine CS (CG (VG (VO.alloc Z fun d => ?_)))
 refine xdj ?_
 refine xlh ?_
 rintro _ _ ⟨r, b, bc, hok, hrl2, hrel, rfl, rfl⟩
 refine xer ?_
 refine VG (VV (fun Fr w hF hs hS => Rk.look_spec Fr w (RwIn.rl (hS.at_ 0 Z) hok) ye k es.length) Z ?_)
 rw [look_same hrel]
 refine VG (VT (vs := resC (kvLook (logRun es).1 k es.length)) (cs' := resC (kvLook (logRun es).1 k es.length)) 2 Z Z Z Z (NR _) Z Z Z ?_)
 refine xdj ?_
 exact CR (Ret.cell 4 Z Z Z (RdL.many (ds := resC (kvLook (logRun es).1 k es.length)) 2 Z Z) Imp.nil.ent ⟨rfl, Z⟩)
end
end Rk
namespace Rk
open Go Vg T Api Kv Lg Rd
attribute [local irreducible] VO VC VA
theorem log_num {es : List EntryM} {e : EntryM} (h : Num es) (he : logErr es e = 0) : Num (es ++ [e]) := by
 refine h.snoc ?_
 unfold logErr at he
 repeat' split at he
 all_goals first | cases he | skip
 rename_i _ _ h3 _
 exact Decidable.byContradiction h3
theorem rlapp_spec (p : Nat) (es : List EntryM) (hnum : Num es) (hl : es.length ≤ 4096) (e : EntryM) : Tri Tryz.prog 93 [.pointer (some ⟨p, 0, none⟩), .agg (entC e).toArray] Fr w [rlogH p es]
  (fun v L => (∃ r, v = .tuple #[.agg (resC r).toArray, .int .i64 (logErr es e)]) ∧ L = [rlogH p (logApp es e)]) := by
 refine TF 83 Tryz.func93 Z yn tabOk Z Z ?_
 refine CS (CG (VG (VB (vs := entC e) Z fun eb => VG (VO.alloc Z fun rb => ?_))))
 refine xfu ?_
 have err : ∀ {X : Cx} {E : Env} {fn : Func} {z : Int}, fn.results = #[.cell 4 resT, .tmp 5] → tyLook X.tab resT = some T.t42 → Vg.look E 5 = some (.int .i64 z) → Vg.look E 4 = some (.pointer (some ⟨rb, 0, none⟩)) → logErr es e = z → z ≠ 0 →
   Ret X fn (fun v L => (∃ r, v = .tuple #[.agg (resC r).toArray, .int .i64 (logErr es e)]) ∧ L = [rlogH p (logApp es e)]) E [pt rb (resC resZ) resT, pt eb (entC e) entT, rlogH p es] := fun {X E fn z} h1 h2 h3 h4 h5 h6 =>
  Ret.cellTmp 4 5 h1 h4 h2 (RdL.many 0 rfl rfl) h3 (L' := [rlogH p es]) (IP 2 rfl Imp.nil).ent ⟨⟨resZ, by rw [h5]; rfl⟩, by rw [logApp, if_neg (by rw [h5]; exact h6)]⟩
 refine CS ?_
 refine CS ?_
 refine VC.meetS (σ := Unit) (fun _ => [(0, pV p), (3, pV eb), (4, pV rb), (35, .bool (badE e))]) (fun _ => [pt rb (resC resZ) resT, pt eb (entC e) entT, rlogH p es]) (fun _ => True) ?_ ?_
 ·refine CG ?_
  refine xfp ?_
  by_cases h1 : e.client < 0
  ·have hb : badE e = true := by simp [badE, h1]
   refine VG (VY 14 true Z (DT h1) ?_)
   refine xfp ?_
   refine xeg ?_
   refine xfp ?_
   refine xjy ?_
   refine xfp ?_
   refine VG (VY 30 true Z Z ?_)
   refine xfp ?_
   exact xez
  refine VG (VY 14 false Z (DF h1) ?_)
  refine xfp ?_
  by_cases h2 : 5 < e.client
  ·have hb : badE e = true := by simp [badE, show (6 : Int) ≤ e.client from h2]
   refine VG (VY 19 true Z (DT h2) ?_)
   refine xfp ?_
   refine xjy ?_
   refine xfp ?_
   refine VG (VY 30 true Z Z ?_)
   refine xfp ?_
   exact xez
  refine VG (VY 19 false Z (DF h2) ?_)
  refine xfp ?_
  by_cases h3 : e.seq < 1
  ·have hb : badE e = true := by simp [badE, h3]
   refine VG (VY 24 true Z (DT h3) ?_)
   refine xfp ?_
   refine VG (VY 30 true Z Z ?_)
   refine xfp ?_
   exact xez
  refine VG (VY 24 false Z (DF h3) ?_)
  refine VG (VL 1 e.op.cells Z Z Z Z ?_)
  refine VG (VO.callV (fun Fr w => rcheck_spec Fr w e.op) Z ?_)
  have hb : badE e = (decide (opCheck e.op ≠ 0) || decide (e.op.kind = 1)) := by
   simp only [badE, readsB, h1, h3, show ¬ (6 : Int) ≤ e.client from fun h => h2 ye, decide_false, Bool.false_or]
   by_cases h4 : opCheck e.op = 0 <;> simp [h4]
  refine xfp ?_
  by_cases h4 : opCheck e.op = 0
  ·refine VG (VY 30 false Z (by simp [h4]) ?_)
   refine xfp ?_
   exact ⟨(), trivial, by rw [hb, DF (fun h => h h4)]; exact sbZ, ER⟩
  ·refine VG (VY 30 true Z (by simp [h4]) ?_)
   refine xfp ?_
   exact ⟨(), trivial, by rw [hb, DT h4]; exact sbZ, ER⟩
 rintro _ -
 refine CC Z (fun hbad => ?_) (fun hbad => CK ?_)
 ·refine zps ?_
  exact CR (err Z Z Z Z (by rw [logErr, if_pos hbad]) yy)
 have hbad' : ¬ badE e = true := by rw [hbad]; simp
 refine VC.opn 2 Z (HOpn.rlog p es) ?_
 rintro x -
 show VC _ _ _ [pt p [.slice x.1 es.length x.2] rlogT, slH entT 7 x.1 es.length x.2 (flat entC es), pt rb (resC resZ) resT, pt eb (entC e) entT] _
 have back : ∀ {X : Cx}, Ent X [pt p [.slice x.1 es.length x.2] rlogT, slH entT 7 x.1 es.length x.2 (flat entC es), pt rb (resC resZ) resT, pt eb (entC e) entT] [pt rb (resC resZ) resT, pt eb (entC e) entT, rlogH p es] :=
  (IP 2 rfl (IP 2 rfl (Imp.rlog x (pkZ [0, 0])))).ent
 refine xlg ?_
 refine CP (p := (4096 : Int) ≤ (es.length : Int)) Z (fun h2 => ?_) (fun h2 => CK ?_)
 ·refine CN back ?_
  refine zps ?_
  exact CR (err Z Z Z Z (by rw [logErr, if_neg hbad', if_pos h2]) yy)
 refine xlg ?_
 refine xds ?_
 refine xlg ?_
 refine VC.condNE (i := e.index) (j := (es.length : Int) + 1) Z (fun h3 => ?_) (fun h3 => CK ?_)
 ·refine CN back ?_
  refine zps ?_
  exact CR (err Z Z Z Z (by rw [logErr, if_neg hbad', if_neg h2, if_pos h3]) yy)
 refine CN back ?_
 refine xfl ?_
 refine VG (VV (fun Fr w hF hs hS => rllast_spec Fr w (hS.at_ 2 Z) hnum ye e.client) Z ?_)
 refine xfl ?_
 refine CP (p := e.seq ≤ (lastOf es e.client).1) Z (fun h4 => ?_) (fun h4 => CK ?_)
 ·refine zps ?_
  exact CR (err Z Z Z Z (by rw [logErr, if_neg hbad', if_neg h2, if_neg (fun h => h h3), if_pos h4]) yy)
 have herr : logErr es e = 0 := by rw [logErr, if_neg hbad', if_neg h2, if_neg (fun h => h h3), if_neg h4]
 have happ : logApp es e = es ++ [e] := by rw [logApp, if_pos herr]
 have hnum2 := log_num hnum herr
 refine VC.opn 2 Z (HOpn.rlog p es) ?_
 rintro x -
 show VC _ _ _ [pt p [.slice x.1 es.length x.2] rlogT, slH entT 7 x.1 es.length x.2 (flat entC es), pt rb (resC resZ) resT, pt eb (entC e) entT] _
 refine VC.opn 1 Z (HOpn.rl entT x.1 x.2 es entC_len) ?_
 rintro r ⟨hrok, hv, hrx⟩
 rw [← hv]
 refine CN (L' := [pt p [r.v] rlogT, r.h entT, pt rb (resC resZ) resT, pt eb (entC e) entT]) (pkZ [1, 0, 0, 0]).ent ?_
 refine CS ?_
 refine VC.meetS (σ := Unit) (fun _ => [(0, pV p), (4, pV rb), (6, .int .i64 es.length)]) (fun _ => [rlogH p (es ++ [e]), pt rb (resC resZ) resT]) (fun _ => True) ?_ ?_
 ·have hle : r.xs.length = es.length := by rw [hrx]
  have e1 : ∀ {a2 : Option Addr} {c2 : Nat}, slH entT 7 a2 (0 + r.xs.length + 1) c2 ([] ++ flat entC r.xs ++ entC e) = slH entT 7 a2 (es ++ [e]).length c2 (flat entC (es ++ [e])) := fun {a2 c2} => by rw [hrx]; simp [flat_append, flat_cons, flat_nil]
  have e2 : ∀ {a2 : Option Addr} {c2 : Nat}, Value.slice a2 (0 + r.xs.length + 1) c2 = Value.slice a2 (es ++ [e]).length c2 := fun {a2 c2} => by rw [hrx]; simp
  refine CD (ts 0 5 (.take 6 (.two 5 7 (.only 7 (.only 8 (.take 9 (.take 10 (.only 11 .nil))))) (.only 5 (.only 8 (.take 9 (.take 10 (.only 11 .nil)))))))) yn yq ?_
  refine xej ?_
  refine VA.go (VA.ldA 3 (entC e) Z Z Z Z Z ?_)
  refine VA.ent (L' := [slH entT 7 none 0 0 [], pt p [r.v] rlogT, r.h entT, pt rb (resC resZ) resT, pt eb (entC e) entT]) (Imp.slNil Imp.refl).ent ?_
  refine VA.go (VA.two Z Z Z Z Z (OpT.append (m := r.xs.length) (news := flat entC r.xs) 0 Z Z Z Z Z Z Z (RL.rd (t := entT) entC_len hrok 2 Z) (flat_all entC_one _) (small_bytes (k := 5000) ye yy) ye)
   rfl rfl rfl (OpT.buildSlice (n := 1) (pv := [(0, .agg (entC e).toArray)]) (cells := entC e) rfl rfl rfl rfl yy (fill_one rfl rfl rfl)) ?_ ?_ ?_ ?_)
  ·rintro v L' ⟨a1, c1, rfl, hc1, rfl⟩
   exact yr
  ·rintro v L' ⟨nb, rfl, rfl⟩
   exact yr
  ·rintro v L' ⟨a1, c1, rfl, hc1, rfl⟩
   refine VA.go (AO (OpT.buildSlice (n := 1) (pv := [(0, .agg (entC e).toArray)]) (cells := entC e) Z Z Z Z yy (fill_one Z Z Z)) Z ?_ ?_)
   ·rintro v L' ⟨nb, rfl, rfl⟩
    exact yr
   rintro v L' ⟨nb, rfl, rfl⟩
   refine VA.go (AO (OpT.append (m := 1) (news := entC e) 1 Z Z Z Z Z Z Z (RdRow.pt 0 Z Z Z) Z (small_bytes (k := 5000) ye yy) ye) Z ?_ ?_)
   ·rintro v L' ⟨a2, c2, rfl, hc2, rfl⟩
    exact yr
   rintro v L' ⟨a2, c2, rfl, hc2, rfl⟩
   refine xfb ?_
   refine xlj ?_
   exact xlk
  ·rintro v L' ⟨nb, rfl, rfl⟩
   refine VA.go (AO (OpT.append (m := r.xs.length) (news := flat entC r.xs) 1 Z Z Z Z Z Z Z (RL.rd (t := entT) entC_len hrok 3 Z) (flat_all entC_one _) (small_bytes (k := 5000) ye yy) ye) Z ?_ ?_)
   ·rintro v L' ⟨a1, c1, rfl, hc1, rfl⟩
    exact yr
   rintro v L' ⟨a1, c1, rfl, hc1, rfl⟩
   refine VA.go (AO (OpT.append (m := 1) (news := entC e) 0 Z Z Z Z Z Z Z (RdRow.pt 1 Z Z Z) Z (small_bytes (k := 5000) ye yy) ye) Z ?_ ?_)
   ·rintro v L' ⟨a2, c2, rfl, hc2, rfl⟩
    exact yr
   rintro v L' ⟨a2, c2, rfl, hc2, rfl⟩
   refine xfb ?_
   refine xlj ?_
   exact xlk
 rintro _ -
 have hrl2 : (logRun (es ++ [e])).2.length = es.length + 1 := by rw [logRun_len, List.length_append]; rfl
 refine xdj ?_
 refine VG (VK (Lc := []) (fun Fr w hF hs hS => by
  obtain ⟨y, hy⟩ := RlogIn.of (hS.at_ 0 rfl)
  exact cells_spec Fr w hy hnum2 (by rw [List.length_append]; show es.length + 1 ≤ 5000; omega)) Z Z ?_)
 rintro _ _ ⟨r3, b, bc, hok, hrl3, hrel, rfl, rfl⟩
 refine xfu ?_
 rw [← logRun_len (es ++ [e])]
 refine VC.opn 1 Z (HOpn.rl resT b bc (logRun (es ++ [e])).2 resC_len) ?_
 rintro r2 ⟨hok2, hv2, hx2⟩
 obtain ⟨y, hy⟩ : ∃ y, r2.xs[es.length]? = some y := ⟨_, GE (by rw [hx2, hrl2]; omega)⟩
 obtain ⟨tb, tof, htb, hta, hrd⟩ := RL.Ok.ld (t := resT) hok2 hy (resC_len y)
 rw [← hv2, show r2.v = .slice r2.addr r2.xs.length r2.cap from rfl, hta]
 refine xdj ?_
 refine VG (VI (light_idx es.length Z Z Z Z Z Z (by rw [hx2, hrl2]; omega)) ?_)
 refine xjp ?_
 refine VG (VT (vs := resC y) (cs' := resC y) 3 Z Z Z Z (NR _) Z Z Z ?_)
 refine xdj ?_
 exact CR (Ret.cellTmp 4 5 Z Z Z (RdL.many (ds := resC y) 3 Z Z) Z (L' := [rlogH p (es ++ [e])]) (IP 2 Z Imp.nil).ent ⟨⟨y, by rw [herr]⟩, by rw [happ]⟩)
end Rk
namespace Nd
open Go Vg T Api Kv Ch Lg Rd Win Adm Sched Conf Rep Ref16 Rk
attribute [local irreducible] VO VC VA
section
variable {α : Type} {c : α → List Value} {n : Nat}
def hdRL (r : RL α) (k : Nat) : RL α := ⟨r.addr, r.cap, r.blk, r.cells, r.xs.take k⟩
def tlRL (n : Nat) (r : RL α) (k : Nat) : RL α := ⟨fromA r.addr r.cap k n, r.cap - k, r.blk, r.cells, r.xs.drop k⟩
theorem hd_ok {r : RL α} (h : r.Ok c n) (k : Nat) : (hdRL r k).Ok c n := ⟨by show (r.xs.take k).length ≤ r.cap; have := h.room; rw [List.length_take]; omega, fun hne => by
 obtain ⟨b, off, h1, h2, h3⟩ := h.at_ (fun e => hne (by show r.xs.take k = []; rw [e]; simp))
 refine ⟨b, off, h1, h2, fun i x hx => h3 i x ?_⟩
 have hx : (r.xs.take k)[i]? = some x := hx
 rw [List.getElem?_take] at hx
 split at hx
 ·exact hx
 ·cases hx⟩
theorem tl_ok {r : RL α} (h : r.Ok c n) (k : Nat) : (tlRL n r k).Ok c n := ⟨by show (r.xs.drop k).length ≤ r.cap - k; have := h.room; rw [List.length_drop]; omega, fun hne => by
 have hne : r.xs.drop k ≠ [] := hne
 have hlt : k < r.xs.length := Decidable.byContradiction fun hk => hne (List.drop_eq_nil_of_le ye)
 obtain ⟨b, off, h1, h2, h3⟩ := h.at_ (fun e => by rw [e] at hlt; cases hlt)
 have hcap : ¬ r.cap = k := by have := h.room; omega
 refine ⟨b, off + k * n, h1, by show fromA r.addr r.cap k n = _; rw [h2, fromA, Option.map_some, if_neg hcap, Addr.add_mid], fun i x hx => ?_⟩
 have hx : (r.xs.drop k)[i]? = some x := hx
 rw [List.getElem?_drop] at hx
 rw [← h3 (k + i) x hx, Nat.add_mul, Nat.add_assoc]; rfl⟩
end
section
variable {p : Nat} {R : RdsM}
theorem rrflush_spec : Tri Tryz.prog 183 [.pointer (some ⟨p, 0, none⟩)] Fr w [rrdsH p R]
  (fun v L => ∃ r : RL RdR, r.Ok rdC 34 ∧ r.xs.map Prod.fst = R.l ∧ v = .slice r.addr r.xs.length r.cap ∧ L = [r.h rrdT, rrdsH p { R with l := [] }]) := by
 refine TF 12 Tryz.func183 Z yn tabOk Z Z ?_
 refine xdz ?_
 refine VC.opn 0 Z (HOpn.rrds p R) ?_
 rintro r ⟨hok, hrx⟩
 show VC _ _ _ [pt p [.int .i64 R.cap, .slice r.addr r.xs.length r.cap, .int .i64 R.last] rrdsT, r.h rrdT] _
 refine xdj ?_
 refine VG (VO.st 0 (cs' := [.int .i64 R.cap, .slice none 0 0, .int .i64 R.last]) Z Z Z Z (Nat.le_of_ble_eq_true Z) Z Z ?_)
 refine xdj ?_
 exact CR (Ret.tmp 2 Z Z (IP 1 Z (Imp.rrds RL.none ⟨RL.none_ok, Z⟩ (IP 0 Z (Imp.pure trivial Imp.nil)))).ent ⟨r, hok, hrx, Z, Z⟩)
def rsure (id : Int) (R : RdsM) : Nat := (R.l.takeWhile fun y => decide (y.id ≤ id)).length
theorem tw_at {α : Type} {q : α → Bool} : ∀ {l : List α} {k : Nat}, k ≤ l.length → (∀ i x, i < k → l[i]? = some x → q x = true) → (∀ x, l[k]? = some x → q x = false) → (l.takeWhile q).length = k
 | [], k, h, _, _ => by simp at h; simp [h]
 | x :: l, 0, _, _, h3 => by have := h3 x rfl; simp [this]
 | x :: l, k + 1, h, h2, h3 => by
  have := h2 0 x ye rfl
  rw [List.takeWhile_cons_of_pos this, List.length_cons, tw_at (l := l) (k := k) yc (fun i y hi hy => h2 (i + 1) y ye ym) (fun y hy => h3 y ym)]
theorem rrsure_spec (hl : R.l.length ≤ 100) (id : Int) : Tri Tryz.prog 119 [.pointer (some ⟨p, 0, none⟩), .int .i64 id] Fr w [rrdsH p R]
  (fun v L => ∃ r r2 : RL RdR, r.Ok rdC 34 ∧ r2.Ok rdC 34 ∧ r.h rrdT = r2.h rrdT ∧ r.xs.map Prod.fst = R.l.take (rsure id R) ∧ r2.xs.map Prod.fst = R.l.drop (rsure id R) ∧ v = .slice r.addr r.xs.length r.cap ∧ L = [pt p [.int .i64 R.cap, .slice r2.addr r2.xs.length r2.cap, .int .i64 R.last] rrdsT, r2.h rrdT]) := by
 refine TF 44 Tryz.func119 Z yn tabOk Z Z ?_
 refine xdz ?_
 refine VC.opn 0 Z (HOpn.rrds p R) ?_
 rintro r ⟨hok, hrx⟩
 have hle : r.xs.length = R.l.length := by rw [← hrx, List.length_map]
 have hroom := hok.room
 show VC _ _ _ [pt p [.int .i64 R.cap, .slice r.addr r.xs.length r.cap, .int .i64 R.last] rrdsT, r.h rrdT] _
 refine xdz ?_
 refine CS ?_
 refine VC.meetS (σ := Nat) (fun k => [(0, pV p), (1, .int .i64 id), (5, .int .i64 k)]) (fun _ => [pt p [.int .i64 R.cap, .slice r.addr r.xs.length r.cap, .int .i64 R.last] rrdsT, r.h rrdT]) (fun k => k ≤ R.l.length ∧ rsure id R = k) ?_ ?_
 ·refine xje ?_
  refine VC.loop (σ := Nat) (fun k => [(0, pV p), (1, .int .i64 id), (5, .int .i64 k)]) (fun _ => [pt p [.int .i64 R.cap, .slice r.addr r.xs.length r.cap, .int .i64 R.last] rrdsT, r.h rrdT]) (fun k => k ≤ R.l.length ∧ ∀ i x, i < k → R.l[i]? = some x → decide (x.id ≤ id) = true) (fun k => R.l.length - k) 0
   ⟨Nat.zero_le _, fun i x hi => by omega⟩ sbZ ER ?_
  rintro k ⟨hk, hall⟩
  refine xdv ?_
  by_cases h1 : k < r.xs.length
  rotate_left
  ·refine VG (VY 14 false Z (DF ye) ?_)
   refine xdv ?_
   refine VC.condF Z (CX ?_)
   exact ⟨k, ⟨hk, tw_at hk hall (fun x hx => by rw [List.getElem?_eq_none ye] at hx; cases hx)⟩, sbZ, ER⟩
  refine VG (VY 14 true Z (DT ye) ?_)
  obtain ⟨y, hy⟩ : ∃ y, r.xs[k]? = some y := ⟨_, GE h1⟩
  have hyl : R.l[k]? = some y.1 := by rw [← hrx, List.getElem?_map, hy]; rfl
  obtain ⟨tb, tof, htb, hta, hrd⟩ := RL.Ok.ld (t := rrdT) hok hy (rdC_len y)
  rw [hta]
  refine xdv ?_
  refine VG (VI (light_idx k Z Z Z Z Z Z h1) ?_)
  refine xdv ?_
  refine VG (VD Z Z ((hrd 1 Z).2 _ 0 _ Z Z) ?_)
  refine xdv ?_
  refine CC Z (fun h2 => CK ?_) (fun h2 => CX ?_)
  ·rw [← hta]
   refine xdv ?_
   refine xds ?_
   refine xdv ?_
   exact ⟨k + 1, ⟨by omega, fun i x hi hx => by
    by_cases hik : i = k
    ·subst hik; rw [hyl] at hx; cases hx; simpa using h2
    ·exact hall i x ye hx⟩, by dsimp only; omega, sbZ, ER⟩
  ·rw [← hta]
   exact ⟨k, ⟨hk, tw_at hk hall (fun x hx => by rw [hyl] at hx; cases hx; simpa using h2)⟩, sbZ, ER⟩
 rintro k ⟨hk, hs⟩
 refine xdj ?_
 refine VG (VI (light_head k Z Z Z Z Z Z ye) ?_)
 refine xdj ?_
 refine VG (VI (light_from k Z Z Z Z Z Z ye ye) ?_)
 refine xdj ?_
 refine VG (VO.st 0 (cs' := [.int .i64 R.cap, .slice (fromA r.addr r.cap k 34) (r.xs.length - k) (r.cap - k), .int .i64 R.last]) Z Z Z Z (Nat.le_of_ble_eq_true Z) Z Z ?_)
 refine xdj ?_
 refine CR (Ret.tmp 4 Z Z (L' := [pt p [.int .i64 R.cap, .slice (tlRL 34 r k).addr (tlRL 34 r k).xs.length (tlRL 34 r k).cap, .int .i64 R.last] rrdsT, (tlRL 34 r k).h rrdT]) (Imp.of_eq ?_).ent ⟨hdRL r k, tlRL 34 r k, hd_ok hok k, tl_ok hok k, Z, ?_, ?_, ?_, Z⟩)
 ·show _ = [pt p [.int .i64 R.cap, .slice (fromA r.addr r.cap k 34) (r.xs.drop k).length (r.cap - k), .int .i64 R.last] rrdsT, r.h rrdT]
  rw [List.length_drop]; rfl
 ·show (r.xs.take k).map Prod.fst = _
  rw [List.map_take, hrx, hs]
 ·show (r.xs.drop k).map Prod.fst = _
  rw [List.map_drop, hrx, hs]
 ·show _ = Value.slice r.addr (r.xs.take k).length r.cap
  rw [List.length_take, Nat.min_eq_left ye]
theorem rrput_spec (hl : R.l.length ≤ 100) (h0 : 0 ≤ R.last) (h1 : R.last ≤ 1000000000) (f : FrameM) (m : MemG) (x : ResM) :
  Tri Tryz.prog 178 [.pointer (some ⟨p, 0, none⟩), .agg (fgC f m).toArray, .agg (resC x).toArray] Fr w [rrdsH p R]
   (fun v L => v = (if (R.l.length : Int) < R.cap then .tuple #[.int .i64 (R.last + 1), .int .i64 0] else .tuple #[.int .i64 0, .int .i64 60]) ∧ L = [rrdsH p (R.put f x)]) := by
 refine TF 46 Tryz.func178 Z yn tabOk Z Z ?_
 refine CS (CG (VG (VB (vs := fgC f m) Z fun fb => VG (VB (vs := resC x) Z fun rb => VG (VN ?_)))))
 refine VC.opn 2 Z (HOpn.rrds p R) ?_
 rintro r ⟨hok, hrx⟩
 have hle : r.xs.length = R.l.length := by rw [← hrx, List.length_map]
 show VC _ _ _ [pt p [.int .i64 R.cap, .slice r.addr r.xs.length r.cap, .int .i64 R.last] rrdsT, r.h rrdT, pt rb (resC x) resT, pt fb (fgC f m) frT] _
 refine CS (CS (CD (ts 0 10 .nil) yn yq ?_))
 refine xdr ?_
 refine CP (p := R.cap ≤ (r.xs.length : Int)) Z (fun hf => ?_) (fun hf => CK ?_)
 ·have hput : R.put f x = R := by rw [RdsM.put, if_neg ye]
  refine xdj ?_
  exact CR (Ret.tmp2 6 7 Z Z Z (Imp.rrds r ⟨hok, hrx⟩ (IP 0 Z (IP 0 Z Imp.nil))).ent ⟨by rw [if_neg ye], by rw [hput]⟩)
 have hput : R.put f x = { R with last := R.last + 1, l := R.l ++ [⟨R.last + 1, f, x⟩] } := by rw [RdsM.put, if_pos ye]
 refine znu ?_
 refine VG (VO.st 0 (cs' := [.int .i64 R.cap, .slice r.addr r.xs.length r.cap, .int .i64 (R.last + 1)]) Z Z Z Z (Nat.le_of_ble_eq_true Z) Z Z ?_)
 refine xfu ?_
 refine CS ?_
 obtain ⟨z, hz⟩ : ∃ z : RdR, z = (⟨R.last + 1, f, x⟩, m) := ⟨_, rfl⟩
 have e1 : ∀ {a2 : Option Addr} {c2 : Nat}, slH rrdT 34 a2 (0 + r.xs.length + 1) c2 ([] ++ flat rdC r.xs ++ rdC z) = slH rrdT 34 a2 (r.xs ++ [z]).length c2 (flat rdC (r.xs ++ [z])) := fun {a2 c2} => by simp [flat_append, flat_cons, flat_nil]
 have e2 : ∀ {a2 : Option Addr} {c2 : Nat}, Value.slice a2 (0 + r.xs.length + 1) c2 = Value.slice a2 (r.xs ++ [z]).length c2 := fun {a2 c2} => by simp
 refine VC.meetS (σ := Option Addr × Nat) (fun y => [(0, pV p)]) (fun y => [pt p [.int .i64 R.cap, .slice y.1 (r.xs ++ [z]).length y.2, .int .i64 (R.last + 1)] rrdsT, slH rrdT 34 y.1 (r.xs ++ [z]).length y.2 (flat rdC (r.xs ++ [z]))]) (fun _ => True) ?_ ?_
 ·refine CD (ts 0 5 (ts 6 7 (.two 5 13 (.only 13 (.only 14 (ts 15 2 (.only 17 .nil)))) (.only 5 (.only 14 (ts 15 2 (.only 17 .nil))))))) yn yq ?_
  refine xgg ?_
  refine VA.go (VA.ldA 3 (fgC f m) Z Z Z Z Z ?_)
  refine VA.go (VA.ldA 2 (resC x) Z Z Z Z Z ?_)
  refine VA.go (AI Z (LB (pv := [(0, .int .i64 (R.last + 1)), (1, .agg (fgC f m).toArray), (2, .agg (resC x).toArray)]) (rdC (⟨R.last + 1, f, x⟩, m)) Z Z Z yn Z) ?_)
  rw [← hz]
  refine VA.ent (L' := [slH rrdT 34 none 0 0 [], pt p [.int .i64 R.cap, .slice r.addr r.xs.length r.cap, .int .i64 (R.last + 1)] rrdsT, r.h rrdT, pt rb (resC x) resT, pt fb (fgC f m) frT]) (Imp.slNil Imp.refl).ent ?_
  refine VA.go (VA.two Z Z Z Z Z (OpT.append (m := r.xs.length) (news := flat rdC r.xs) 0 Z Z Z Z Z Z Z (RL.rd (t := rrdT) rdC_len hok 2 Z) (flat_all rdC_one _) (small_bytes (k := 101) ye yy) ye)
   rfl rfl rfl (OpT.buildSlice (n := 1) (pv := [(0, .agg (rdC z).toArray)]) (cells := rdC z) rfl rfl rfl rfl yy (fill_one rfl rfl rfl)) ?_ ?_ ?_ ?_)
  ·rintro v L' ⟨a1, c1, rfl, hc1, rfl⟩
   exact yr
  ·rintro v L' ⟨nb, rfl, rfl⟩
   exact yr
  ·rintro v L' ⟨a1, c1, rfl, hc1, rfl⟩
   refine VA.go (AO (OpT.buildSlice (n := 1) (pv := [(0, .agg (rdC z).toArray)]) (cells := rdC z) Z Z Z Z yy (fill_one Z Z Z)) Z ?_ ?_)
   ·rintro v L' ⟨nb, rfl, rfl⟩
    exact yr
   rintro v L' ⟨nb, rfl, rfl⟩
   refine VA.go (AO (OpT.append (m := 1) (news := rdC z) 1 Z Z Z Z Z Z Z (RdRow.pt 0 Z Z Z) Z (small_bytes (k := 101) ye yy) ye) Z ?_ ?_)
   ·rintro v L' ⟨a2, c2, rfl, hc2, rfl⟩
    exact yr
   rintro v L' ⟨a2, c2, rfl, hc2, rfl⟩
   refine xfb ?_
   refine xll ?_
   exact xlm
  ·rintro v L' ⟨nb, rfl, rfl⟩
   refine VA.go (AO (OpT.append (m := r.xs.length) (news := flat rdC r.xs) 1 Z Z Z Z Z Z Z (RL.rd (t := rrdT) rdC_len hok 3 Z) (flat_all rdC_one _) (small_bytes (k := 101) ye yy) ye) Z ?_ ?_)
   ·rintro v L' ⟨a1, c1, rfl, hc1, rfl⟩
    exact yr
   rintro v L' ⟨a1, c1, rfl, hc1, rfl⟩
   refine VA.go (AO (OpT.append (m := 1) (news := rdC z) 0 Z Z Z Z Z Z Z (RdRow.pt 1 Z Z Z) Z (small_bytes (k := 101) ye yy) ye) Z ?_ ?_)
   ·rintro v L' ⟨a2, c2, rfl, hc2, rfl⟩
    exact yr
   rintro v L' ⟨a2, c2, rfl, hc2, rfl⟩
   refine xfb ?_
   refine xll ?_
   exact xlm
 rintro ⟨a2, c2⟩ -
 refine VC.opn 1 Z (HOpn.rl rrdT a2 c2 (r.xs ++ [z]) rdC_len) ?_
 rintro r2 ⟨ok2, hv2, hx2⟩
 dsimp only
 rw [← hv2]
 refine xfl ?_
 exact CR (Ret.tmp2 6 7 Z Z Z (Imp.rrds r2 (R := R.put f x) ⟨ok2, by rw [hput, hx2, List.map_append, hrx, hz]; rfl⟩ (by rw [hput]; exact (IP 1 Z (IP 0 Z Imp.nil)))).ent ⟨by rw [if_pos ye], Z⟩)
end
end Nd
namespace Sched
open Go Vg Api
theorem popF_ind (I : SchM → Prop) (R : FrameM → SchM → Prop)
  (hE : ∀ S c, S.Wf → I S → S.cls[S.turn]? = some c → c.q = [] → I ⟨S.cls.set S.turn c.c0, S.cap, (S.turn + 1) % S.cls.length, true⟩)
  (hL : ∀ S c g q, S.Wf → I S → S.cls[S.turn]? = some c → c.q = g :: q → (c.c1 S.fresh).credit < opCost g.op → I ⟨S.cls.set S.turn (c.c1 S.fresh), S.cap, (S.turn + 1) % S.cls.length, true⟩)
  (hP : ∀ S c g q, S.Wf → I S → S.cls[S.turn]? = some c → c.q = g :: q → ¬ (c.c1 S.fresh).credit < opCost g.op → R g (if q = [] then ⟨S.cls.set S.turn (c.c2 S.fresh g q), S.cap, (S.turn + 1) % S.cls.length, true⟩ else ⟨S.cls.set S.turn (c.c2 S.fresh g q), S.cap, S.turn, false⟩)) :
  ∀ {N : Nat} {S S1 : SchM} {f : FrameM}, S.Wf → I S → S.popF N = some (f, S1) → R f S1
 | 0, S, S1, f, _, _, h => by simp [SchM.popF] at h
 | N + 1, S, S1, f, hw, hi, h => by
  obtain ⟨c, hc⟩ : ∃ c, S.cls[S.turn]? = some c := ⟨_, GE hw.turn⟩
  have hcw := hw.cls c (ME hc)
  have hql := hw.qs c (ME hc)
  rw [popF_succ hc] at h
  cases hq : c.q with
  | nil =>
   simp only [hq] at h
   exact popF_ind I R hE hL hP (hw.turned (c' := c.c0) hcw.empty hql yam) (hE S c hw hi hc hq) h
  | cons g q' =>
   simp only [hq] at h
   have hcost := opCost_le g.op
   by_cases hlt : (c.c1 S.fresh).credit < opCost g.op
   ·rw [if_pos hlt] at h
    exact popF_ind I R hE hL hP (hw.turned (c' := c.c1 S.fresh) (hw.c1 hc) hql ye) (hL S c g q' hw hi hc hq hlt) h
   ·rw [if_neg hlt] at h
    have := hP S c g q' hw hi hc hq hlt
    simp only [Option.some.injEq, Prod.mk.injEq] at h
    obtain ⟨rfl, rfl⟩ := h
    exact this
end Sched
namespace Ref16
open Go Vg T Api Sched
attribute [local irreducible] VO VC VA
def few (S : SchM) (B : Int) : Prop := ∀ c ∈ S.cls, c.served ≤ B
theorem few_set {S : SchM} {B : Int} {k t : Nat} {c' : ClsM} {fr : Bool} (h : few S B) (hc : c'.served ≤ B) : few ⟨S.cls.set k c', S.cap, t, fr⟩ B := fun x hx => by
 rcases List.mem_or_eq_of_mem_set hx with hx | rfl
 ·exact h x hx
 ·exact hc
theorem quanta_set {l : List ClsM} {k : Nat} {c c' : ClsM} (hc : l[k]? = some c) (h : c'.quantum = c.quantum) : (l.set k c').map ClsM.quantum = l.map ClsM.quantum := by
 rw [List.map_set, h]
 have : (l.map ClsM.quantum)[k]? = some c.quantum := by rw [List.getElem?_map, hc]; rfl
 exact list_set_same this
theorem popF_keeps {N : Nat} {S S1 : SchM} {f : FrameM} {qs : List Int} {B : Int} (hw : S.Wf) (hq : S.cls.map ClsM.quantum = qs) (hB : few S B) (h : S.popF N = some (f, S1)) : S1.cls.map ClsM.quantum = qs ∧ few S1 (B + 96) := by
 refine popF_ind (fun S => S.cls.map ClsM.quantum = qs ∧ few S B) (fun _ S1 => S1.cls.map ClsM.quantum = qs ∧ few S1 (B + 96)) ?_ ?_ ?_ hw ⟨hq, hB⟩ h
 ·rintro S c hw ⟨h1, h2⟩ hc _
  refine ⟨Eq.trans ?_ h1, few_set h2 (h2 c (ME hc))⟩; exact quanta_set hc rfl
 ·rintro S c g q hw ⟨h1, h2⟩ hc _ _
  refine ⟨Eq.trans ?_ h1, few_set h2 (h2 c (ME hc))⟩; exact quanta_set hc rfl
 ·rintro S c g q hw ⟨h1, h2⟩ hc _ _
  have h3 := h2 c (ME hc)
  have h4 := opCost_le g.op
  have h5 : (c.c2 S.fresh g q).served ≤ B + 96 := by
   show SchM.served2 (c.served + opCost g.op) ≤ _
   unfold SchM.served2; split <;> omega
  have h6 : few S (B + 96) := fun c hc => by have := h2 c hc; omega
  split
  ·refine ⟨Eq.trans ?_ h1, few_set h6 h5⟩; exact quanta_set hc rfl
  ·refine ⟨Eq.trans ?_ h1, few_set h6 h5⟩; exact quanta_set hc rfl
theorem popM_keeps {S S1 : SchM} {f : FrameM} {qs : List Int} {B : Int} (hw : S.Wf) (hq : S.cls.map ClsM.quantum = qs) (hB : few S B) (h : S.popM = some (f, S1)) : S1.cls.map ClsM.quantum = qs ∧ few S1 (B + 96) := by
 unfold SchM.popM at h
 split at h
 ·cases h
 ·exact popF_keeps hw hq hB h
end Ref16
namespace Ref16
open Go Vg T Api Sched
attribute [local irreducible] VO VC VA
abbrev ExpS := Nat × SchM × RfS × Option Addr × Nat × List FM
structure ExpI (S0 : SchM) (a0 : Option Addr) (now : Int) (s0 : RfS) (x : ExpS) : Prop where
 le : x.1 ≤ S0.cls.length
 ok : RfOk x.2.1 a0 x.2.2.1
 cls : ∀ k, x.2.1.cls[k]? = (S0.cls[k]?).map (if k < x.1 then ClsM.expC now else id)
 cap : x.2.1.cap = S0.cap
 turn : x.2.1.turn = S0.turn
 fresh : x.2.1.fresh = S0.fresh
 room : x.2.2.2.2.2.length ≤ x.2.2.2.2.1
 gs : x.2.2.2.2.2.map Prod.fst = (S0.cls.take x.1).flatMap fun c => c.q.filter (gone now)
abbrev RowS := Nat × (Option Addr × Nat × List FM) × (Option Addr × Nat × List FM)
structure ExpJ (q : List FrameM) (now : Int) (gs0 : List FrameM) (x : RowS) : Prop where
 le : x.1 ≤ q.length
 roomG : x.2.1.2.2.length ≤ x.2.1.2.1
 gs : x.2.1.2.2.map Prod.fst = gs0 ++ (q.take x.1).filter (gone now)
 roomS : x.2.2.2.2.length ≤ x.2.2.2.1
 ss : x.2.2.2.2.map Prod.fst = (q.take x.1).filter (stay now)
theorem expire_spec (p : Nat) (a0 : Option Addr) (S0 : SchM) (now : Int) :
  Tri Tryz.prog 165 [.pointer (some ⟨p, 0, none⟩), .int .i64 now] Fr w [rfH p a0 S0] (fun v L => ∃ a c gs, gs.map Prod.fst = S0.goneM now ∧ v = .slice a gs.length c ∧ L = [rfH p a0 (S0.expM now), frH a c gs]) := by
 refine TF 86 Tryz.func165 Z yn tabOk Z Z ?_
 refine VC.opn 0 Z (HOpn.rf p a0 S0) fun s0 h0 => ?_
 refine CN (L' := rfL p S0 s0) (Imp.of_eq (List.append_nil _)).ent ?_
 have hn4 := h0.wf.n1
 refine xdj ?_
 refine VC.loop (σ := ExpS) (fun x => [(0, pV p), (1, .int .i64 now), (5, .slice x.2.2.2.1 x.2.2.2.2.2.length x.2.2.2.2.1), (6, .int .i64 x.1)]) (fun x => frH x.2.2.2.1 x.2.2.2.2.1 x.2.2.2.2.2 :: rfL p x.2.1 x.2.2.1) (ExpI S0 a0 now s0) (fun x => 4 - x.1) (0, S0, s0, none, 0, []) ⟨Nat.zero_le _, h0, fun k => by simp, Z, Z, Z, NR _, Z⟩ sbZ (Imp.slNil Imp.refl).ent ?_
 rintro ⟨i, S, s, a, c, gs⟩ ⟨hi, h, hcls, hcap, hturn, hfresh, hroom, hgs⟩
 dsimp only at hi h hcls hcap hturn hfresh hroom hgs ⊢
 have hSn : S.cls.length = S0.cls.length := by
  apply Nat.le_antisymm
  ·apply Nat.le_of_not_lt
   intro hlt
   have := hcls S0.cls.length
   rw [List.getElem?_eq_none (NR _), GE hlt] at this
   cases this
  ·apply Nat.le_of_not_lt
   intro hlt
   have := hcls S.cls.length
   rw [List.getElem?_eq_none (NR _), GE hlt] at this
   cases this
 refine xfl ?_
 refine CP Z (fun h1 => CK ?_) (fun h1 => CX ?_)
 ·have hk : i < S.cls.length := by omega
  have hk0 : i < S0.cls.length := by omega
  obtain ⟨r, cl, hr, hc, hok, hl⟩ := h.row hk
  have hc0 : S0.cls[i]? = some cl := by
   have := hcls i
   rw [hc, if_neg (Nat.lt_irrefl i)] at this
   simpa using this.symm
  have hlen : r.xs.length = cl.q.length := by have := congrArg List.length hl; simpa using this
  have hql := h.wf.qs cl (ME hc)
  have hcap16 := h.wf.cap1
  have hfew := h0.wf.fewG i now
  refine xdi ?_
  refine xdz ?_
  refine VC.meet (σ := RowS) (fun x => [(0, pV p), (1, .int .i64 now), (5, .slice x.2.1.1 x.2.1.2.2.length x.2.1.2.1), (6, .int .i64 i), (7, .slice x.2.2.1 x.2.2.2.2.length x.2.2.2.1)])
   (fun x => frH x.2.1.1 x.2.1.2.1 x.2.1.2.2 :: frH x.2.2.1 x.2.2.2.1 x.2.2.2.2 :: rfL p S s) (fun x => x.1 = cl.q.length ∧ ExpJ cl.q now ((S0.cls.take i).flatMap fun c => c.q.filter (gone now)) x) ?_ ?_
  ·refine xdj ?_
   refine VC.loop (σ := RowS) (fun x => [(0, pV p), (1, .int .i64 now), (5, .slice x.2.1.1 x.2.1.2.2.length x.2.1.2.1), (6, .int .i64 i), (7, .slice x.2.2.1 x.2.2.2.2.length x.2.2.2.1), (8, .int .i64 x.1)])
    (fun x => frH x.2.1.1 x.2.1.2.1 x.2.1.2.2 :: frH x.2.2.1 x.2.2.2.1 x.2.2.2.2 :: rfL p S s) (ExpJ cl.q now ((S0.cls.take i).flatMap fun c => c.q.filter (gone now))) (fun x => 16 - x.1) (0, (a, c, gs), (none, 0, [])) ⟨Nat.zero_le _, hroom, by simpa using hgs, NR _, rfl⟩ sbZ (IP 0 rfl (Imp.slNil Imp.refl)).ent ?_
   clear hroom hgs
   rintro ⟨j, ⟨a, c, gs⟩, ⟨aS, cS, ss⟩⟩ ⟨hj, hroom, hgs, hroomS, hss⟩
   dsimp only at hj hroom hgs hroomS hss ⊢
   have hgl : gs.length ≤ 80 ∧ ss.length ≤ 16 := by
    have h2 := congrArg List.length hgs
    have h3 := List.length_filter_le (gone now) (cl.q.take j)
    have h4 := List.length_take_le j cl.q
    have h5 := congrArg List.length hss
    have h6 := List.length_filter_le (stay now) (cl.q.take j)
    rw [List.length_map, List.length_append] at h2
    rw [List.length_map] at h5
    omega
   refine zpt ?_
   refine VG (VO.ld 3 Z Z Z (rows_v hr) (VG (VN ?_)))
   refine CP Z (fun h2 => CK ?_) (fun h2 => CX ?_)
   ·have h2 : (j : Int) < r.xs.length := h2
    have hj2 : j < r.xs.length := by omega
    obtain ⟨⟨f, m⟩, hx⟩ : ∃ x, r.xs[j]? = some x := ⟨_, GE hj2⟩
    obtain ⟨bk, off, hbk, had, hrow⟩ := hok.nth hx
    have hv : r.v = .slice (some ⟨bk, off, none⟩) r.xs.length r.cap := by rw [RL.v, had]
    have hrv : (s.rows.map RL.v)[0 + i * 1]? = some (.slice (some ⟨bk, off, none⟩) r.xs.length r.cap) := hv ▸ rows_v hr
    have hrowk : (rfR s)[i]? = some (pt bk r.cells 46) := by rw [rf_h hr, RL.h_pt hbk]
    have hfq : cl.q[j]? = some f := by rw [← hl, List.getElem?_map, hx]; rfl
    have htake : cl.q.take (j + 1) = cl.q.take j ++ [f] := by rw [List.take_add_one, hfq]; rfl
    have hcell : r.cells[off + j * 29 + 6]? = some (.int .i64 f.deadline) := by
     have h3 : (fmc (f, m))[6]? = some (.int .i64 f.deadline) := rfl
     rw [← hrow, List.getElem?_take, if_pos ye, List.getElem?_drop] at h3
     exact h3
    refine zpt ?_
    refine VG (VO.ld 3 Z Z Z hrv ?_)
    refine xln ?_
    refine VG (VO.ld (i + 6) (t := 46) (cs := r.cells) Z hrowk Z hcell (VG (VN ?_)))
    have step : ∀ (x : RowS), x.1 = j + 1 → ExpJ cl.q now ((S0.cls.take i).flatMap fun c => c.q.filter (gone now)) x → True := fun _ _ _ => trivial
    refine CP Z (fun h3 => ?_) (fun h3 => ?_)
    ·have h3 : f.deadline < now := h3
     have hg : gone now f = true := by simp [gone, h3]
     have hs : stay now f = false := by simp [stay, hg]
     refine zpt ?_
     refine VG (VO.ld 3 Z Z Z hrv ?_)
     refine xln ?_
     refine xlo ?_
     refine VG (VO.buildSlice (n := 1) (pv := [(0, .agg (fmc (f, m)).toArray)]) (fmc (f, m)) Z Z Z Z yy (fill_one Z Z Z) fun nb => ?_)
     refine VG (VO.append (m := 1) (news := fmc (f, m)) 1 Z Z Z Z Z Z Z (RdRow.pt 0 Z Z Z) Z yao ye fun a' c' hc' => VG (VN ?_))
     refine znv ?_
     have hL : (gs ++ [(f, m)]).length = gs.length + 1 := by simp
     refine ⟨(j + 1, (a', c', gs ++ [(f, m)]), (aS, cS, ss)), ⟨by dsimp only; omega, by dsimp only; rw [hL]; exact hc', ?_, hroomS, by dsimp only; rw [hss, htake, List.filter_append]; simp [hs]⟩, by dsimp only; omega, SC Z (SC Z (SC yag sbZ)), ?_⟩
     ·dsimp only; rw [List.map_append, hgs, htake, List.filter_append, List.append_assoc]; simp [hg]
     ·dsimp only
      rw [← frH_snoc]
      exact (Imp.cons Imp.tl).ent
    ·have h3 : ¬ f.deadline < now := h3
     have hg : gone now f = false := by simp [gone]; omega
     have hs : stay now f = true := by simp [stay, hg]
     refine zpt ?_
     refine VG (VO.ld 3 Z Z Z hrv ?_)
     refine xln ?_
     refine xlo ?_
     refine VG (VO.buildSlice (n := 1) (pv := [(0, .agg (fmc (f, m)).toArray)]) (fmc (f, m)) Z Z Z Z yy (fill_one Z Z Z) fun nb => ?_)
     refine VG (VO.append (m := 1) (news := fmc (f, m)) 2 Z Z Z Z Z Z Z (RdRow.pt 0 Z Z Z) Z (by show (ss.length + 1) * 288 ≤ _; omega) ye fun a' c' hc' => VG (VN ?_))
     refine znv ?_
     have hL : (ss ++ [(f, m)]).length = ss.length + 1 := by simp
     refine ⟨(j + 1, (a, c, gs), (a', c', ss ++ [(f, m)])), ⟨by dsimp only; omega, hroom, by dsimp only; rw [hgs, htake, List.filter_append]; simp [hg], by dsimp only; rw [hL]; exact hc', ?_⟩, by dsimp only; omega, SC Z (SC Z (SC Z (SC Z (SC yag sbZ)))), ?_⟩
     ·dsimp only; rw [List.map_append, hss, htake, List.filter_append]; simp [hs]
     ·dsimp only
      rw [← frH_snoc]
      refine (IP 2 Z ?_).ent
      refine IP 0 Z ?_
      exact Imp.tl
   ·have h2 : ¬ (j : Int) < r.xs.length := h2
    exact ⟨(j, (a, c, gs), (aS, cS, ss)), ⟨by dsimp only; omega, ⟨hj, hroom, hgs, hroomS, hss⟩⟩, sbZ, ER⟩
  clear hroom hgs
  rintro ⟨j, ⟨a, c, gs⟩, ⟨aS, cS, ss⟩⟩ ⟨hj0, ⟨hj, hroom, hgs, hroomS, hss⟩⟩
  dsimp only at hj0 hj hroom hgs hroomS hss ⊢
  subst hj0
  rw [List.take_length] at hgs hss
  refine VC.opn 1 Z (HOpn.rl _ aS cS ss fmc_len) fun r' ⟨hok', hv', hx'⟩ => ?_
  have hle2 := List.length_filter_le (stay now) cl.q
  have hki : i < s.rows.length := by rw [h.len]; exact hk
  have hwf' : SchM.Wf ⟨S.cls.set i (cl.expC now), S.cap, S.turn, S.fresh⟩ := h.wf.set hc ((h.wf.cls cl (ME hc)).exp now) yap (fun hl => by
   have := h.wf.low i cl hc hl
   show (if cl.q.filter (stay now) = [] then 0 else cl.credit) ≤ 95
   split <;> omega)
  have hnext : ExpI S0 a0 now s0 (i + 1, ⟨S.cls.set i (cl.expC now), S.cap, S.turn, S.fresh⟩, { s with rows := s.rows.set i r' }, a, c, gs) := by
   refine ⟨hk0, h.set hok' (by rw [hx', hss]; rfl) hwf', fun k => ?_, hcap, hturn, hfresh, hroom, ?_⟩
   ·dsimp only
    by_cases hik : i = k
    ·subst hik
     rw [List.getElem?_set_self hk, hc0, if_pos (Nat.lt_succ_self i)]; rfl
    ·rw [List.getElem?_set_ne hik, hcls k]
     congr 1
     by_cases h9 : k < i
     ·rw [if_pos h9, if_pos ye]
     ·rw [if_neg h9, if_neg ye]
   ·dsimp only; rw [hgs, List.take_add_one, hc0, List.flatMap_append]; simp
  refine CN (L' := r'.h 46 :: frH a c gs :: rfL p S s) ER ?_
  refine zpt ?_
  refine VG (VO.st 3 Z Z Z Z (by show 0 + i * 1 < _; simp; omega) (cs' := (s.rows.map RL.v).set i r'.v) (by show (s.rows.map RL.v).set (0 + i * 1) _ = _; rw [Nat.zero_add, Nat.mul_one, hv']) Z (VG (VN ?_)))
  refine xdj ?_
  refine CE Z (fun hz => ?_) (fun hz => CK ?_)
  ·have hz : cl.q.filter (stay now) = [] := by rw [← hss, List.eq_nil_of_length_eq_zero (l := ss) ye]; rfl
   have hcr : (cl.expC now).credit = 0 := by show (if cl.q.filter (stay now) = [] then 0 else cl.credit) = 0; rw [if_pos hz]
   refine zpt ?_
   refine VG (VO.st 4 Z Z Z Z (by show 0 + i * 1 < _; rw [crs_len]; omega) (crs_set (c := cl.expC now) hcr.symm) Z (VG (VN ?_)))
   refine znv ?_
   refine ⟨_, hnext, by dsimp only; omega, SC Z (SC Z (SC Z (SC Z (SN _)))), ?_⟩
   refine (IP 1 Z ?_).ent
   refine xlp ?_
   simp only [rfL, List.length_set, List.map_set, svs_same hc (show (cl.expC now).served = cl.served from rfl)]; rfl
  ·have hz : cl.q.filter (stay now) ≠ [] := fun e => hz (by have := congrArg List.length hss; rw [e] at this; simp at this; simp [this])
   have hcr : (cl.expC now).credit = cl.credit := by show (if cl.q.filter (stay now) = [] then 0 else cl.credit) = _; rw [if_neg hz]
   refine znv ?_
   refine ⟨_, hnext, by dsimp only; omega, SC Z (SC Z (SC Z (SC Z (SN _)))), ?_⟩
   refine (IP 1 Z ?_).ent
   refine xlp ?_
   simp only [rfL, List.length_set, List.map_set, svs_same hc (show (cl.expC now).served = cl.served from rfl), crs_same hc hcr]; rfl
 ·have hk : i = S0.cls.length := by omega
  subst hk
  rw [List.take_length] at hgs
  refine xdj ?_
  have e : S = S0.expM now := by
   obtain ⟨cls, cap, turn, fresh⟩ := S
   dsimp only at hcls hcap hturn hfresh
   subst hcap; subst hturn; subst hfresh
   show SchM.mk _ _ _ _ = SchM.mk _ _ _ _
   congr 1
   apply List.ext_getElem?
   intro k
   rw [hcls k, List.getElem?_map]
   by_cases h9 : k < S0.cls.length
   ·rw [if_pos h9]
   ·rw [List.getElem?_eq_none ye]; rfl
  subst e
  refine CR (Ret.tmp 4 Z Z (Imp.trans (Imp.perm (List.perm_append_comm (l₁ := [_]))) (Imp.app (L := rfL p _ s) (rf_shut s h Imp.refl) Imp.refl)).ent ⟨a, c, gs, hgs, Z, Z⟩)
end Ref16
namespace Nd
open Go Vg T Api Kv Ch Lg Rd Win Adm Sched Conf Rep Ref16 Rk
attribute [local irreducible] VO VC VA
section
variable {p : Nat} {C : ConfM} {ca : Option Addr} {cc : Nat} {A : AdmM} {sp : Nat}
theorem rseq_at {k : Nat} {m : MkM} (h : A.marks[k]? = some m) : (radCs C ca cc A sp)[0 + 13 + k * 1]? = some (.int .i64 m.1) := by
 have hk := (List.getElem?_eq_some_iff.1 h).1
 unfold radCs
 rw [List.getElem?_append_right ycc, ConfM.cells_len, show 0 + 13 + k * 1 - 12 = k + 1 from by omega, List.getElem?_cons_succ, List.getElem?_append_left yp, List.getElem?_map, h]; rfl
theorem rtry_at (hm : A.marks.length = 6) {k : Nat} {m : MkM} (h : A.marks[k]? = some m) : (radCs C ca cc A sp)[0 + 19 + k * 1]? = some (.int .i64 m.2) := by
 have hk := (List.getElem?_eq_some_iff.1 h).1
 unfold radCs
 rw [List.getElem?_append_right ycc, ConfM.cells_len, show 0 + 19 + k * 1 - 12 = (k + 6) + 1 from by omega, List.getElem?_cons_succ, List.getElem?_append_right yf, List.length_map, hm, Nat.add_sub_cancel, List.getElem?_map, h]; rfl
def radC1 (C : ConfM) (ca : Option Addr) (cc : Nat) (A : AdmM) (sp : Nat) (k : Nat) (s : Int) : List Value := C.cells ca cc ++ (.pointer (some ⟨sp, 0, none⟩) :: (((A.marks.map fun m => .int .i64 m.1).set k (.int .i64 s)) ++ (A.marks.map fun m => .int .i64 m.2)))
theorem rad_set1 {k : Nat} (hk : k < A.marks.length) (s : Int) : (radCs C ca cc A sp).set (0 + 13 + k * 1) (.int .i64 s) = radC1 C ca cc A sp k s := by
 unfold radCs radC1
 rw [List.set_append, if_neg ycc, ConfM.cells_len, show 0 + 13 + k * 1 - 12 = k + 1 from by omega, List.set_cons_succ, List.set_append, if_pos yp]
theorem rad_set2 (hm : A.marks.length = 6) {k : Nat} (hk : k < 6) (s t : Int) : (radC1 C ca cc A sp k s).set (0 + 19 + k * 1) (.int .i64 t) = radCs C ca cc (A.setMark k (s, t)) sp := by
 unfold radCs radC1
 rw [List.set_append, if_neg ycc, ConfM.cells_len, show 0 + 19 + k * 1 - 12 = (k + 6) + 1 from by omega, List.set_cons_succ, List.set_append, if_neg yf, List.length_set, List.length_map, hm, Nat.add_sub_cancel]
 show _ ++ (_ :: (_ ++ _)) = _ ++ (_ :: (((A.marks.set (k : Int).toNat (s, t)).map fun m => Value.int .i64 m.1) ++ ((A.marks.set (k : Int).toNat (s, t)).map fun m => Value.int .i64 m.2)))
 rw [List.map_set, List.map_set, Int.toNat_natCast]
theorem rad_len (hm : A.marks.length = 6) : (radCs C ca cc A sp).length = 25 := by unfold radCs; simp [hm, ConfM.cells_len]
theorem rad_len1 (hm : A.marks.length = 6) {k : Nat} {s : Int} : (radC1 C ca cc A sp k s).length = 25 := by unfold radC1; simp [hm, ConfM.cells_len]
theorem ris_spec (hc : C.clients = A.clients) (h : Blk Fr w p (radCs C ca cc A sp)) (k : Int) : Tri Tryz.prog 170 [.pointer (some ⟨p, 0, none⟩), .int .i64 k] Fr w [] (fun v L => v = .bool (A.has k) ∧ L = []) := by
 have e : A.has k = decide (0 ≤ k ∧ k < C.clients) := by rw [AdmM.has, hc]
 rw [e]
 refine TF 16 Tryz.func170 Z yn tabOk Z Z ?_
 refine xdj ?_
 refine VG (VO.split 7 Z Z (fun h2 => ?_) (fun h2 => ?_))
 ·have h2 := of_decide_eq_true h2
  refine xdl ?_
  exact xgj
 ·have h2 := of_decide_eq_false h2
  refine xdj ?_
  exact xgj
theorem has_at {A : AdmM} (hm : A.marks.length = 6) (h6 : A.clients ≤ 6) {k : Int} (h : A.has k = true) : ∃ (n : Nat) (m : MkM), k = n ∧ n < 6 ∧ A.marks[n]? = some m ∧ A.mark k = m := by
 have h := of_decide_eq_true h
 have hlt : k.toNat < A.marks.length := by omega
 exact ⟨k.toNat, A.marks[k.toNat], by omega, by omega, GE hlt, by rw [AdmM.mark, GE hlt]; rfl⟩
theorem rbarred_spec (hc : C.clients = A.clients) (hm : A.marks.length = 6) (h6 : A.clients ≤ 6) (h : Blk Fr w p (radCs C ca cc A sp)) (k s t : Int) :
  Tri Tryz.prog 171 [.pointer (some ⟨p, 0, none⟩), .int .i64 k, .int .i64 s, .int .i64 t] Fr w [] (fun v L => v = .bool (A.barred k s t) ∧ L = []) := by
 refine TF 37 Tryz.func171 Z yn tabOk Z Z ?_
 refine xdj ?_
 refine VG (VV (fun Fr w hF hs _ => ris_spec Fr w hc (h.of hF hs) k) Z ?_)
 refine xdj ?_
 refine CC Z (fun h1 => ?_) (fun h1 => CK ?_)
 ·have h1 : A.has k = false := by simpa using h1
  refine xdj ?_
  exact CR (Ret.bool 8 Z Z (by rw [AdmM.barred, h1]; rfl) ER ⟨rfl, Z⟩)
 have h1 : A.has k = true := by simpa using h1
 obtain ⟨n, m, rfl, hn, hat, hmk⟩ := has_at hm h6 h1
 refine xdj ?_
 refine xhq ?_
 refine VG (VD Z Z (RdL.blk h (rseq_at hat)) ?_)
 refine xdj ?_
 refine VC.condNE (i := s) (j := m.1) Z (fun h2 => ?_) (fun h2 => CK ?_)
 ·refine xdj ?_
  refine xhq ?_
  refine VG (VD Z Z (RdL.blk h (rseq_at hat)) ?_)
  refine xdj ?_
  refine CR (Ret.bool 8 Z Z ?_ ER ⟨rfl, Z⟩)
  rw [AdmM.barred, h1, hmk, aheadM]
  have hb : (m.1 == s) = false := by rw [beq_eq_false_iff_ne]; exact fun e => h2 e.symm
  rw [hb, Bool.false_and, Bool.or_false, Bool.true_and]
  by_cases h3 : s < m.1
  ·rw [DT h3, DF ye]; rfl
  ·rw [DF h3, DT ye]; rfl
 ·refine xdj ?_
  refine xhq ?_
  refine VG (VD Z Z (RdL.blk h (rtry_at hm hat)) ?_)
  refine xdj ?_
  refine CR (Ret.bool 8 Z Z ?_ ER ⟨rfl, Z⟩)
  rw [AdmM.barred, h1, hmk, aheadM]
  have hb : (m.1 == s) = true := by rw [beq_iff_eq]; exact h2.symm
  show _ = (true && !(decide (m.1 < s) || (m.1 == s) && decide (m.2 < t)))
  rw [hb, DF (show ¬ m.1 < s by omega), Bool.false_or, Bool.true_and, Bool.true_and]
  by_cases h3 : t ≤ m.2
  ·rw [DT h3, DF ye]; rfl
  ·rw [DF h3, DT ye]; rfl
theorem rbar_spec (hc : C.clients = A.clients) (hm : A.marks.length = 6) (h6 : A.clients ≤ 6) (k s t : Int) :
  Tri Tryz.prog 94 [.pointer (some ⟨p, 0, none⟩), .int .i64 k, .int .i64 s, .int .i64 t] Fr w [pt p (radCs C ca cc A sp) radT] (fun v L => v = .int .i64 (A.barM k s t).1 ∧ L = [pt p (radCs C ca cc (A.barM k s t).2 sp) radT]) := by
 have bad : ¬ (A.has k && numM s && numM t) = true → A.barM k s t = (2, A) := fun h => by rw [AdmM.barM, if_neg h]
 refine TF 47 Tryz.func94 Z yn tabOk Z Z ?_
 refine xdz ?_
 refine CS ?_
 refine CS ?_
 refine VC.meetS (σ := Unit) (fun _ => [(0, pV p), (1, .int .i64 k), (2, .int .i64 s), (3, .int .i64 t), (28, .bool (!(A.has k && numM s && numM t)))]) (fun _ => [pt p (radCs C ca cc A sp) radT]) (fun _ => True) ?_ ?_
 ·refine CG ?_
  refine VG (VV (fun Fr w hF hs hS => ris_spec Fr w hc (hS.blk 0 Z) k) Z ?_)
  refine xkn ?_
  have tail : ∀ {E : Env} {q : Bool}, Vg.look E 0 = some (.pointer (some ⟨p, 0, none⟩)) → Vg.look E 1 = some (.int .i64 k) → Vg.look E 2 = some (.int .i64 s) → Vg.look E 3 = some (.int .i64 t) → Vg.look E 28 = some (.bool q) → q = (!(A.has k && numM s && numM t)) →
    Sub [(0, pV p), (1, .int .i64 k), (2, .int .i64 s), (3, .int .i64 t), (28, .bool (!(A.has k && numM s && numM t)))] E := fun h0 h1 h2 h3 h4 h5 => SC h0 (SC h1 (SC h2 (SC h3 (SC (by rw [h4, h5]) (SN _)))))
  cases h1 : A.has k with
  | false =>
   refine VG (VY 13 true Z Z ?_)
   refine xkn ?_
   refine VG (VY 17 true Z Z ?_)
   refine xkn ?_
   refine VG (VY 21 true Z Z ?_)
   refine xkn ?_
   refine VG (VY 25 true Z Z ?_)
   refine xkn ?_
   exact ⟨(), trivial, by simpa [h1] using tail Z Z Z Z Z yg, ER⟩
  | true =>
   refine VG (VY 13 false Z Z ?_)
   refine xkn ?_
   by_cases h2 : s < 1
   ·have hs : numM s = false := by simp [numM, show ¬ 1 ≤ s by omega]
    refine VG (VY 17 true Z (DT h2) ?_)
    refine xkn ?_
    refine VG (VY 21 true Z Z ?_)
    refine xkn ?_
    refine VG (VY 25 true Z Z ?_)
    refine xkn ?_
    exact xlq
   refine VG (VY 17 false Z (DF h2) ?_)
   refine xkn ?_
   by_cases h3 : 1099511627776 < s
   ·have hs : numM s = false := by simp [numM, show ¬ s ≤ 1099511627776 by omega]
    refine VG (VY 21 true Z (DT h3) ?_)
    refine xkn ?_
    refine VG (VY 25 true Z Z ?_)
    refine xkn ?_
    exact xlq
   have hs : numM s = true := by simp [numM]; omega
   refine VG (VY 21 false Z (DF h3) ?_)
   refine xkn ?_
   by_cases h4 : t < 1
   ·have ht : numM t = false := by simp [numM, show ¬ 1 ≤ t by omega]
    refine VG (VY 25 true Z (DT h4) ?_)
    refine xkn ?_
    exact ⟨(), trivial, by simpa [h1] using tail Z Z Z Z Z (by simp [h1, hs, ht]), ER⟩
   refine VG (VY 25 false Z (DF h4) ?_)
   refine xkn ?_
   have hd : decide (1099511627776 < t) = !(A.has k && numM s && numM t) := by
    rw [h1, hs, Bool.true_and, Bool.true_and]
    by_cases h5 : 1099511627776 < t
    ·rw [DT h5]; simp [numM]; omega
    ·rw [DF h5]; simp [numM]; omega
   exact ⟨(), trivial, by simpa [h1] using tail Z Z Z Z Z hd, ER⟩
 rintro _ -
 refine CC Z (fun hb => ?_) (fun hb => CK ?_)
 ·have hb : ¬ (A.has k && numM s && numM t) = true := fun h => by rw [h] at hb; cases hb
  refine xdj ?_
  exact CR (Ret.int 8 Z Z (by rw [bad hb]) ER ⟨rfl, by rw [bad hb]⟩)
 have hb : (A.has k && numM s && numM t) = true := by simpa using hb
 have hh : A.has k = true := by simp only [Bool.and_eq_true] at hb; exact hb.1.1
 have hbar : A.barM k s t = (0, A.barF k s t) := by rw [AdmM.barM, if_pos hb]
 rw [hbar]
 refine CS ?_
 refine VC.meetS (σ := Unit) (fun _ => []) (fun _ => [pt p (radCs C ca cc (A.barF k s t) sp) radT]) (fun _ => True) ?_ ?_
 rotate_left
 ·rintro _ -
  refine xdj ?_
  exact CR (Ret.int 8 Z Z Z ER ⟨rfl, Z⟩)
 refine xdj ?_
 refine VG (VV (fun Fr w hF hs hS => rbarred_spec Fr w hc hm h6 (hS.blk 0 Z) k s t) Z ?_)
 refine xdj ?_
 have hbr : A.barred k s t = !aheadM (A.mark k) (s, t) := by rw [AdmM.barred, hh]; rfl
 refine CC Z (fun h1 => ?_) (fun h1 => CK ?_)
 rotate_left
 ·have h2 : ¬ aheadM (A.mark k) (s, t) = true := by rw [hbr] at h1; simpa using h1
  exact ⟨(), trivial, SN _, by rw [AdmM.barF, if_neg h2]; exact ER⟩
 have h2 : aheadM (A.mark k) (s, t) = true := by rw [hbr] at h1; simpa using h1
 obtain ⟨n, m, rfl, hn, hat, hmk⟩ := has_at hm h6 hh
 refine CD (ts 0 9 (.take 10 (.take 11 (.only 9 (.take 12 (.only 13 .nil)))))) yn yq ?_
 refine xdr ?_
 refine xht ?_
 refine VA.go (VA.st 0 Z Z Z Z Z (by show 0 + 13 + n * 1 < (radCs C ca cc A sp).length; rw [rad_len hm]; omega) (cs' := radC1 C ca cc A sp n s) (rad_set1 ye s) Z yr ?_)
 refine xdr ?_
 refine xht ?_
 refine VA.go (VA.st 0 Z Z Z Z Z (by show 0 + 19 + n * 1 < (radC1 C ca cc A sp n s).length; rw [rad_len1 hm]; omega) (cs' := radCs C ca cc (A.setMark n (s, t)) sp) (rad_set2 hm hn s t) Z yr ?_)
 refine xdr ?_
 exact ⟨(), trivial, SN _, by rw [AdmM.barF, if_pos h2]; exact ER⟩
end
end Nd
namespace Nd
open Go Vg T Api Kv Ch Lg Rd Win Adm Sched Conf Rep Ref16 Rk
attribute [local irreducible] VO VC VA
structure RaOk (C : ConfM) (A : AdmM) : Prop where
 cl : C.clients = A.clients
 marks : A.marks.length = 6
 c6 : A.clients ≤ 6
 qs : A.sch.cls.map ClsM.quantum = C.qs
def rwaits (S : SchM) (k : Int) : Int × Bool := match S.waitM.find? (fun f => f.client == k) with
 | some f => (f.seq, true)
 | none => (0, false)
theorem barM_same (A : AdmM) (k s t : Int) : (A.barM k s t).2.clients = A.clients ∧ (A.barM k s t).2.marks.length = A.marks.length ∧ (A.barM k s t).2.sch = A.sch := by
 unfold AdmM.barM
 split
 ·unfold AdmM.barF
  split
  ·exact ⟨rfl, by simp [AdmM.setMark], Z⟩
  ·exact ⟨rfl, Z, Z⟩
 ·exact ⟨rfl, Z, Z⟩
def barAll (A : AdmM) (gs : List FrameM) : AdmM := gs.foldl (fun A f => (A.barM f.client f.seq f.try_).2) A
theorem barAll_snoc (A : AdmM) (gs : List FrameM) (f : FrameM) : barAll A (gs ++ [f]) = ((barAll A gs).barM f.client f.seq f.try_).2 := by simp [barAll]
theorem barAll_same : ∀ (gs : List FrameM) (A : AdmM), (barAll A gs).clients = A.clients ∧ (barAll A gs).marks.length = A.marks.length ∧ (barAll A gs).sch = A.sch
 | [], A => ⟨rfl, rfl, rfl⟩
 | f :: gs, A => by
  obtain ⟨h1, h2, h3⟩ := barAll_same gs (A.barM f.client f.seq f.try_).2
  obtain ⟨k1, k2, k3⟩ := barM_same A f.client f.seq f.try_
  exact ⟨h1.trans k1, h2.trans k2, h3.trans k3⟩
def raExp (A : AdmM) (now : Int) : AdmM := barAll (A.withSch (A.sch.expM now)) (A.sch.goneM now)
def raW (A : AdmM) (f : FrameM) (now : Int) : Int × AdmM :=
 if A.barred f.client f.seq f.try_ then (7, A)
 else if (rwaits A.sch f.client).2 = true ∧ (rwaits A.sch f.client).1 = f.seq then (6, A)
 else if (rwaits A.sch f.client).2 = true then (1, A)
 else if f.deadline < now then (2, A)
 else if (A.sch.pushM f).1 ≠ 0 then (1, A.withSch (A.sch.pushM f).2) else (0, A.withSch (A.sch.pushM f).2)
def raOffer (A : AdmM) (f : FrameM) (now : Int) : Int × AdmM :=
 if A.may f then if (raW A f now).1 ≠ 0 ∧ (raW A f now).1 ≠ 6 then ((raW A f now).1, ((raW A f now).2.barM f.client f.seq f.try_).2) else raW A f now else (10, A)
theorem find_none_take {l : List FrameM} {k : Int} {i : Nat} {f : FrameM} (h : ∀ (j : Nat) (x : FrameM), j < i → l[j]? = some x → x.client ≠ k) (hf : l[i]? = some f) (hk : f.client = k) : l.find? (fun f => f.client == k) = some f := by
 induction l generalizing i with
 | nil => cases hf
 | cons x l ih =>
  cases i with
  | zero =>
   obtain rfl : x = f := by simpa using hf
   rw [List.find?_cons_of_pos yp]
  | succ i =>
   rw [List.find?_cons_of_neg (by simpa using h 0 x ye rfl)]
   exact ih (i := i) (fun j y hj hy => h (j + 1) y ye ym) (by simpa using hf)
theorem find_none_all {l : List FrameM} {k : Int} (h : ∀ (j : Nat) (x : FrameM), l[j]? = some x → x.client ≠ k) : l.find? (fun f => f.client == k) = none := by
 rw [List.find?_eq_none]
 intro x hx
 obtain ⟨j, hj⟩ := List.getElem?_of_mem hx
 simpa using h j x hj
theorem rreads_spec (o : OpM) : Tri Tryz.prog 112 [.agg o.cells.toArray] Fr w [] (fun v L => v = .bool (readsM o) ∧ L = []) := by
 refine TF 11 Tryz.func112 Z yn tabOk Z Z ?_
 refine CS (CG (VG (VB (vs := o.cells) Z (fun b => VG (VN ?_)))))
 refine xdj ?_
 refine VG (VO.split 6 Z Z (fun h1 => ?_) (fun h1 => ?_))
 ·have h1 : o.kind = 1 := eq_of_beq h1
  refine VG (VL 0 o.cells Z Z Z Z ?_)
  refine VG (VO.callV (fun Fr w => rcheck_spec Fr w o) Z ?_)
  refine xdj ?_
  exact CR (Ret.bool 2 Z Z (by simp [h1, readsM]) Imp.nil.ent ⟨rfl, Z⟩)
 ·have h1 : o.kind ≠ 1 := ne_of_beq_false h1
  refine xdj ?_
  exact CR (Ret.bool 2 Z Z (by simp [h1, readsM]) Imp.nil.ent ⟨rfl, Z⟩)
section
variable {p : Nat} {C : ConfM} {ca : Option Addr} {cc : Nat} {A : AdmM} {sp : Nat}
structure RadIn (Fr : Nat → Prop) (w : World) (p : Nat) (C : ConfM) (ca : Option Addr) (cc : Nat) (A : AdmM) (sp : Nat) : Prop where
 blk : Blk Fr w p (radCs C ca cc A sp)
 sch : SatIn Fr [rfH sp ca A.sch] w
theorem RadIn.of {Fr : Nat → Prop} {w : World} (h : SatIn Fr [radH p C ca cc A] w) : ∃ sp, RadIn Fr w p C ca cc A sp := by
 obtain ⟨sp, h⟩ := h.ex
 have h := h.sep
 exact ⟨sp, h.blk 0 Z, h.at_ 1 Z⟩
theorem rwaits_spec (h : RadIn Fr w p C ca cc A sp) (k : Int) : Tri Tryz.prog 234 [.pointer (some ⟨p, 0, none⟩), .int .i64 k] Fr w []
  (fun v L => v = .tuple #[.int .i64 (rwaits A.sch k).1, .bool (rwaits A.sch k).2] ∧ L = []) := by
 have hb := h.blk
 refine TF 31 Tryz.func234 Z yn tabOk Z Z ?_
 refine xdz ?_
 refine xgw ?_
 refine VG (VD Z Z (RdL.blk hb Z) ?_)
 refine VG (VK (Lc := []) (fun Fr w hF hs hS => Ref16.waiting_spec Fr w (h.sch.of hF hs)) Z Z ?_)
 rintro _ _ ⟨a, c, gs, hgs, rfl, rfl⟩
 refine xfu ?_
 refine VC.opn 0 Z (HOpn.rl frT a c gs fmc_len) ?_
 rintro r ⟨hok, hv, hrx⟩
 rw [← hv]
 rw [← hrx] at hgs
 have hgl : A.sch.waitM.length = r.xs.length := by rw [← hgs, List.length_map]
 have hr64 : r.xs.length ≤ 1000000 := by
  obtain ⟨s, hs⟩ := RfIn.of h.sch
  have := hs.ok.wf.few A.sch.cls.length
  rw [List.take_length] at this
  have : A.sch.waitM.length ≤ 64 := this
  omega
 refine CS (CS (CG (VG (VN ?_))))
 show VC _ _ _ _ _
 refine xje ?_
 refine VC.loop (σ := Nat) (fun i => [(1, .int .i64 k), (6, .slice r.addr r.xs.length r.cap), (7, .int .i64 i)]) (fun _ => [r.h frT]) (fun i => i ≤ r.xs.length ∧ ∀ j x, j < i → A.sch.waitM[j]? = some x → x.client ≠ k) (fun i => r.xs.length - i) 0
  ⟨Nat.zero_le _, fun j x hj => by omega⟩ sbZ ER ?_
 rintro i ⟨hi, hno⟩
 refine xdv ?_
 refine CP (p := (i : Int) < (r.xs.length : Int)) Z (fun h1 => CK ?_) (fun h1 => CX ?_)
 rotate_left
 ·show VC _ _ _ _ _
  refine xdj ?_
  exact CR (Ret.tmp2 4 5 Z Z Z Imp.nil.ent ⟨by
   rw [rwaits, find_none_all (fun j x hx => hno j x (by have := (List.getElem?_eq_some_iff.1 hx).1; omega) hx)], rfl⟩)
 have h1 : i < r.xs.length := by omega
 obtain ⟨y, hy⟩ : ∃ y, r.xs[i]? = some y := ⟨_, GE h1⟩
 have hyl : A.sch.waitM[i]? = some y.1 := by rw [← hgs, List.getElem?_map, hy]; rfl
 obtain ⟨tb, tof, htb, hta, hrd⟩ := RL.Ok.ld (t := frT) hok hy (fmc_len y)
 rw [hta]
 refine xdv ?_
 refine xlr ?_
 refine xdv ?_
 refine VG (VD Z Z ((hrd 0 Z).2 _ 2 _ Z Z) ?_)
 refine xdv ?_
 refine CE (i := y.1.client) (j := k) Z (fun h2 => ?_) (fun h2 => CK ?_)
 ·refine xdv ?_
  refine xlr ?_
  refine xdv ?_
  refine VG (VD Z Z ((hrd 0 Z).2 _ 3 _ Z Z) ?_)
  refine xdv ?_
  exact CR (Ret.tmp2 4 5 Z Z Z Imp.nil.ent ⟨by rw [rwaits, find_none_take hno hyl h2], Z⟩)
 ·rw [← hta]
  refine xdv ?_
  refine xds ?_
  refine xdv ?_
  exact ⟨i + 1, ⟨h1, fun j x hj hx => by
   by_cases hji : j = i
   ·subst hji; rw [hyl] at hx; cases hx; exact h2
   ·exact hno j x ye hx⟩, by dsimp only; omega, sbZ, ER⟩
theorem rmay_spec (ra : RaOk C A) (h : RadIn Fr w p C ca cc A sp) (f : FM) : Tri Tryz.prog 180 [.pointer (some ⟨p, 0, none⟩), .agg (fmc f).toArray] Fr w [] (fun v L => v = .bool (A.may f.1) ∧ L = []) := by
 have hb := h.blk
 obtain ⟨s, hs⟩ := RfIn.of h.sch
 have hs0 := hs.at0
 refine TF 65 Tryz.func180 Z yn tabOk Z Z ?_
 refine CS (CG (VG (VB (vs := fmc f) Z fun b => VG (VN ?_))))
 refine VC.meet (σ := Bool) (fun b => [(4, .bool b)]) (fun _ => []) (fun b => b = A.may f.1) ?_ ?_
 rotate_left
 ·rintro b rfl
  exact CR (Ret.bool 4 Z Z Z ER ⟨rfl, Z⟩)
 refine CD (ts 0 7 (.only 7 (ts 8 28 (.only 36 (ts 37 14 (.only 51 (ts 52 5 (.only 57 (ts 58 3 .nil))))))))) yn yq ?_
 refine xdr ?_
 refine VA.go (VA.split 8 Z Z (fun h8 => ?_) (fun h8 => ?_))
 rotate_left
 ·have h8 : ¬ (f.1.kind = 1) := by simpa using h8
  refine xhw ?_
  refine VA.go (AY 14 false Z Z ?_)
  refine xhx ?_
  refine zpl ?_
  refine xls ?_
  refine zpv ?_
  exact ⟨false, by show false = AdmM.may A f.1; rw [AdmM.may]; (simp [numM, h8]), sbZ, Imp.nil.ent⟩
 have h8 : f.1.kind = 1 := by simpa using h8
 refine xdr ?_
 refine VA.go (AR (fun Fr w hF hs hS => ris_spec Fr w ra.cl (hb.of hF hs) f.1.client) Z Z yx ?_)
 refine VA.go (VA.split 14 Z Z (fun h14 => ?_) (fun h14 => ?_))
 rotate_left
 ·have h14 : ¬ (A.has f.1.client = true) := by simpa using h14
  refine xhx ?_
  refine zpl ?_
  refine xls ?_
  refine zpv ?_
  exact ⟨false, by show false = AdmM.may A f.1; rw [AdmM.may]; (simp [numM, h14]), sbZ, Imp.nil.ent⟩
 have h14 : A.has f.1.client = true := by simpa using h14
 refine xdr ?_
 refine VA.go (VA.split 19 Z Z (fun h19 => ?_) (fun h19 => ?_))
 rotate_left
 ·have h19 : ¬ (1 ≤ f.1.seq) := by simpa using h19
  refine zpl ?_
  refine xls ?_
  refine zpv ?_
  exact ⟨false, by show false = AdmM.may A f.1; rw [AdmM.may]; (simp [numM, h19]), sbZ, Imp.nil.ent⟩
 have h19 : 1 ≤ f.1.seq := by simpa using h19
 refine xdr ?_
 refine VA.go (VA.split 24 Z Z (fun h24 => ?_) (fun h24 => ?_))
 rotate_left
 ·have h24 : ¬ (f.1.seq ≤ 1099511627776) := by simpa using h24
  refine xhz ?_
  refine xls ?_
  refine zpv ?_
  exact ⟨false, by show false = AdmM.may A f.1; rw [AdmM.may]; (simp [numM, h24]), sbZ, Imp.nil.ent⟩
 have h24 : f.1.seq ≤ 1099511627776 := by simpa using h24
 refine xdr ?_
 refine VA.go (VA.split 29 Z Z (fun h29 => ?_) (fun h29 => ?_))
 rotate_left
 ·have h29 : ¬ (1 ≤ f.1.try_) := by simpa using h29
  refine xls ?_
  refine zpv ?_
  exact ⟨false, by show false = AdmM.may A f.1; rw [AdmM.may]; (simp [numM, h29]), sbZ, Imp.nil.ent⟩
 have h29 : 1 ≤ f.1.try_ := by simpa using h29
 refine xdr ?_
 refine VA.go (VA.split 34 Z Z (fun h34 => ?_) (fun h34 => ?_))
 rotate_left
 ·have h34 : ¬ (f.1.try_ ≤ 1099511627776) := by simpa using h34
  refine zpv ?_
  exact ⟨false, by show false = AdmM.may A f.1; rw [AdmM.may]; (simp [numM, h34]), sbZ, Imp.nil.ent⟩
 have h34 : f.1.try_ ≤ 1099511627776 := by simpa using h34
 refine xhv ?_
 refine VA.go (AR (fun Fr w hF hs hS => Ref16.has_spec Fr w f.1.cls (hs0.of hF hs)) Z Z yx ?_)
 refine VA.go (VA.split 43 Z Z (fun h43 => ?_) (fun h43 => ?_))
 rotate_left
 ·have h43 : ¬ (0 ≤ f.1.cls ∧ f.1.cls < (A.sch.cls.length : Int)) := by simpa using h43
  refine xic ?_
  refine zoz ?_
  exact ⟨false, by show false = AdmM.may A f.1; rw [AdmM.may]; (simp [numM, h43]); intros; exfalso; omega, sbZ, Imp.nil.ent⟩
 have h43 : 0 ≤ f.1.cls ∧ f.1.cls < (A.sch.cls.length : Int) := by simpa using h43
 refine xdr ?_
 refine VA.go (VA.split 48 Z Z (fun h48 => ?_) (fun h48 => ?_))
 rotate_left
 ·have h48 : ¬ (0 ≤ f.1.deadline) := by simpa using h48
  refine zoz ?_
  exact ⟨false, by show false = AdmM.may A f.1; rw [AdmM.may]; (simp [numM, h48]), sbZ, Imp.nil.ent⟩
 have h48 : 0 ≤ f.1.deadline := by simpa using h48
 refine xdr ?_
 refine VA.go (VA.split 53 Z Z (fun h53 => ?_) (fun h53 => ?_))
 rotate_left
 ·have h53 : ¬ (f.1.deadline ≤ 1099511627776) := by simpa using h53
  refine zou ?_
  exact ⟨false, by show false = AdmM.may A f.1; rw [AdmM.may]; (simp [numM, h53]), sbZ, Imp.nil.ent⟩
 have h53 : f.1.deadline ≤ 1099511627776 := by simpa using h53
 refine xdr ?_
 refine xie ?_
 refine VA.go (AR (fun Fr w hF hs hS => rcheck_spec Fr w f.1.op) Z Z yx ?_)
 refine VA.go (VA.split 59 Z Z (fun h59 => ?_) (fun h59 => ?_))
 rotate_left
 ·have h59 : ¬ (opCheck f.1.op = 0) := by simpa using h59
  refine zog ?_
  exact ⟨false, by show false = AdmM.may A f.1; rw [AdmM.may]; (simp [numM, h59]), sbZ, Imp.nil.ent⟩
 have h59 : opCheck f.1.op = 0 := by simpa using h59
 refine xie ?_
 refine VA.go (AR (fun Fr w hF hs hS => rreads_spec Fr w f.1.op) Z Z yx ?_)
 refine yG (yN ?_)
 refine ⟨!readsM f.1.op, ?_, sbZ, Imp.nil.ent⟩
 rw [AdmM.may]
 simp [numM, h8, h14, h19, h24, h29, h34, h43, h48, h53, h59]
end
end Nd
namespace Nd
open Go Vg T Api Kv Ch Lg Rd Win Adm Sched Conf Rep Ref16 Rk
attribute [local irreducible] VO VC VA
section
variable {p : Nat} {C : ConfM} {ca : Option Addr} {cc : Nat} {A : AdmM} {sp : Nat}
theorem rreason_spec (ra : RaOk C A) (f : FM) (now : Int) : Tri Tryz.prog 216 [.pointer (some ⟨p, 0, none⟩), .agg (fmc f).toArray, .int .i64 now] Fr w [radH p C ca cc A]
  (fun v L => v = .int .i64 (raW A f.1 now).1 ∧ L = [radH p C ca cc (raW A f.1 now).2]) := by
 refine TF 43 Tryz.func216 Z yn tabOk Z Z ?_
 refine CS (CG (VG (VB (vs := fmc f) Z fun b => VG (VN ?_))))
 refine VC.opn 1 Z (HOpn.rad p C ca cc A) ?_
 rintro sp -
 show VC _ _ _ [pt p (radCs C ca cc A sp) radT, rfH sp ca A.sch, pt b (fmc f) frT] _
 have out : ∀ {X : Cx}, Ent X [pt p (radCs C ca cc A sp) radT, rfH sp ca A.sch, pt b (fmc f) frT] [radH p C ca cc A] := (Imp.rad sp (pkZ [0, 0])).ent
 refine xgw ?_
 refine VG (VO.ld 2 Z Z Z Z ?_)
 refine VG (VV (fun Fr w hF hs hS => rwaits_spec Fr w ⟨hS.blk 0 Z, hS.at_ 1 Z⟩ f.1.client) Z ?_)
 refine xfm ?_
 refine VG (VV (fun Fr w hF hs hS => rbarred_spec Fr w ra.cl ra.marks ra.c6 (hS.blk 0 Z) f.1.client f.1.seq f.1.try_) Z ?_)
 refine xfm ?_
 refine CC Z (fun h1 => ?_) (fun h1 => CK ?_)
 ·have e : raW A f.1 now = (7, A) := by rw [raW, if_pos h1]
  exact zpe
 have h1' : ¬ A.barred f.1.client f.1.seq f.1.try_ = true := by rw [h1]; simp
 refine CS ?_
 refine CS ?_
 refine VC.meetS (σ := Bool) (fun d => [(0, pV p), (2, .int .i64 now), (4, pV b), (8, .bool (rwaits A.sch f.1.client).2), (30, .bool d)]) (fun _ => [pt p (radCs C ca cc A sp) radT, rfH sp ca A.sch, pt b (fmc f) frT]) (fun d => d = true ↔ ((rwaits A.sch f.1.client).2 = true ∧ (rwaits A.sch f.1.client).1 = f.1.seq)) ?_ ?_
 ·refine CG ?_
  refine xfn ?_
  refine VG (VO.split 25 Z Z (fun h2 => ?_) (fun h2 => ?_))
  ·refine xfn ?_
   exact ⟨_, by rw [h2]; simp, SC Z (SC Z (SC Z (SC Z (SC Z (SN _))))), ER⟩
  ·refine xfn ?_
   exact ⟨false, by rw [h2]; simp, sbZ, ER⟩
 rintro d hd
 refine CC Z (fun h2 => ?_) (fun h2 => CK ?_)
 ·have e : raW A f.1 now = (6, A) := by rw [raW, if_neg h1', if_pos (hd.1 h2)]
  exact zpe
 have h2' : ¬ ((rwaits A.sch f.1.client).2 = true ∧ (rwaits A.sch f.1.client).1 = f.1.seq) := fun h => by rw [hd.2 h] at h2; cases h2
 refine xfm ?_
 refine CC Z (fun h3 => ?_) (fun h3 => CK ?_)
 ·have e : raW A f.1 now = (1, A) := by rw [raW, if_neg h1', if_neg h2', if_pos h3]
  exact zpe
 have h3' : ¬ (rwaits A.sch f.1.client).2 = true := by rw [h3]; simp
 refine xfm ?_
 refine CP (p := f.1.deadline < now) Z (fun h4 => ?_) (fun h4 => CK ?_)
 ·have e : raW A f.1 now = (2, A) := by rw [raW, if_neg h1', if_neg h2', if_neg h3', if_pos h4]
  exact zpe
 have e : raW A f.1 now = if (A.sch.pushM f.1).1 ≠ 0 then (1, A.withSch (A.sch.pushM f.1).2) else (0, A.withSch (A.sch.pushM f.1).2) := by rw [raW, if_neg h1', if_neg h2', if_neg h3', if_neg h4]
 refine CS (CS (CD (ts 0 5 (.only 5 (.take 6 .nil))) yn yq ?_))
 refine xgh ?_
 refine VA.go (VA.ldA 2 (fmc f) Z Z Z Z Z ?_)
 refine VA.go (AQ 1 (ψ := fun v H => v = .int .i64 (A.sch.pushM f.1).1 ∧ H = rfH sp ca (A.sch.pushM f.1).2) Z (fun Fr w hF hs _ => Ref16.push_spec Fr w sp ca A.sch f) Z Z yz (fun v H h => by rw [h.2]; exact yr) ?_)
 rintro _ _ ⟨rfl, rfl⟩
 refine xem ?_
 have out2 : ∀ {X : Cx}, Ent X [pt p (radCs C ca cc A sp) radT, rfH sp ca (A.sch.pushM f.1).2, pt b (fmc f) frT] [radH p C ca cc (A.withSch (A.sch.pushM f.1).2)] := Imp.ent (Imp.rad (A := A.withSch (A.sch.pushM f.1).2) sp (pkZ [0, 0]))
 refine VC.condNE (i := (A.sch.pushM f.1).1) (j := 0) Z (fun h5 => ?_) (fun h5 => CK ?_)
 ·rw [if_pos h5] at e
  refine xdj ?_
  exact CR (Ret.int 6 Z Z yar out2 ⟨rfl, by rw [e]⟩)
 ·rw [if_neg (fun h => h h5)] at e
  refine xdj ?_
  exact CR (Ret.int 6 Z Z yar out2 ⟨rfl, by rw [e]⟩)
theorem raW_same (A : AdmM) (f : FrameM) (now : Int) : (raW A f now).2.clients = A.clients ∧ (raW A f now).2.marks = A.marks := by
 unfold raW
 repeat' split
 all_goals exact ⟨rfl, rfl⟩
theorem roffer_spec (ra : RaOk C A) (f : FM) (now : Int) : Tri Tryz.prog 181 [.pointer (some ⟨p, 0, none⟩), .agg (fmc f).toArray, .int .i64 now] Fr w [radH p C ca cc A]
  (fun v L => v = .int .i64 (raOffer A f.1 now).1 ∧ L = [radH p C ca cc (raOffer A f.1 now).2]) := by
 refine TF 31 Tryz.func181 Z yn tabOk Z Z ?_
 refine CS (CG (VG (VB (vs := fmc f) Z fun b => VG (VN ?_))))
 refine CS (CS (CG ?_))
 refine xih ?_
 refine VG (VV (fun Fr w hF hs hS => by
  obtain ⟨sp, h⟩ := RadIn.of (hS.at_ 1 rfl)
  exact rmay_spec Fr w ra h f) Z ?_)
 refine xfu ?_
 refine CC Z (fun h1 => ?_) (fun h1 => CK ?_)
 ·have h1 : ¬ A.may f.1 = true := by simpa using h1
  have e : raOffer A f.1 now = (10, A) := by rw [raOffer, if_neg h1]
  refine xdj ?_
  exact CR (Ret.int 6 Z Z yar (IP 1 Z Imp.nil).ent ⟨rfl, by rw [e]⟩)
 have h1 : A.may f.1 = true := by simpa using h1
 refine xgw ?_
 refine xih ?_
 refine VG (VQ 1 (ψ := fun v H => v = .int .i64 (raW A f.1 now).1 ∧ H = radH p C ca cc (raW A f.1 now).2) Z (fun Fr w hF hs _ => rreason_spec Fr w ra f now) Z yz ?_)
 rintro _ _ ⟨rfl, rfl⟩
 refine xfu ?_
 obtain ⟨k1, k2⟩ := raW_same A f.1 now
 have ra2 : RaOk C (raW A f.1 now).2 → True := fun _ => trivial
 have fin : ¬ ((raW A f.1 now).1 ≠ 0 ∧ (raW A f.1 now).1 ≠ 6) → raOffer A f.1 now = raW A f.1 now := fun h => by rw [raOffer, if_pos h1, if_neg h]
 refine CS ?_
 refine VC.meetS (σ := Unit) (fun _ => [(7, .int .i64 (raW A f.1 now).1)]) (fun _ => [radH p C ca cc (raOffer A f.1 now).2]) (fun _ => True) ?_ ?_
 rotate_left
 ·rintro _ -
  refine xdj ?_
  refine CR (Ret.int 6 Z Z ?_ ER ⟨rfl, Z⟩)
  rw [raOffer, if_pos h1]
  split <;> rfl
 refine zpw ?_
 by_cases h2 : (raW A f.1 now).1 = 0
 ·refine VG (VY 18 false Z ycd ?_)
  refine zob ?_
  exact ⟨(), trivial, sbZ, by rw [fin (fun h => h.1 h2)]; exact (IP 1 Z Imp.nil).ent⟩
 refine VG (VY 18 true Z yce ?_)
 refine xdv ?_
 refine VC.condNE (i := (raW A f.1 now).1) (j := 6) Z (fun h3 => ?_) (fun h3 => CK ?_)
 rotate_left
 ·exact ⟨(), trivial, sbZ, by rw [fin (fun h => h.2 h3)]; exact (IP 1 Z Imp.nil).ent⟩
 have e : raOffer A f.1 now = ((raW A f.1 now).1, ((raW A f.1 now).2.barM f.1.client f.1.seq f.1.try_).2) := by rw [raOffer, if_pos h1, if_pos ⟨h2, h3⟩]
 refine VC.opn 1 Z (HOpn.rad p C ca cc (raW A f.1 now).2) ?_
 rintro sp -
 show VC _ _ _ [pt p (radCs C ca cc (raW A f.1 now).2 sp) radT, rfH sp ca (raW A f.1 now).2.sch, pt b (fmc f) frT] _
 refine xfn ?_
 refine VG (VQ 0 (ψ := fun v H => H = pt p (radCs C ca cc ((raW A f.1 now).2.barM f.1.client f.1.seq f.1.try_).2 sp) radT) Z (fun Fr w hF hs _ => rbar_spec Fr w (ra.cl.trans k1.symm) (by rw [k2]; exact ra.marks) (by rw [k1]; exact ra.c6) f.1.client f.1.seq f.1.try_) Z ybh ?_)
 rintro _ _ rfl
 refine xfu ?_
 refine ⟨(), trivial, sbZ, ?_⟩
 rw [e]
 refine Imp.ent (Imp.rad (A := ((raW A f.1 now).2.barM f.1.client f.1.seq f.1.try_).2) sp (IP 0 Z (IP 0 ?_ Imp.nil)))
 rw [(barM_same _ _ _ _).2.2]; rfl
end
end Nd
namespace Nd
open Go Vg T Api Kv Ch Lg Rd Win Adm Sched Conf Rep Ref16 Rk
attribute [local irreducible] VO VC VA
section
variable {p : Nat} {C : ConfM} {ca : Option Addr} {cc : Nat} {A : AdmM} {sp : Nat}
theorem rflush_spec (ra : RaOk C A) : Tri Tryz.prog 182 [.pointer (some ⟨p, 0, none⟩)] Fr w [radH p C ca cc A]
  (fun v L => ∃ r : RL FM, r.Ok fmc 29 ∧ r.xs.map Prod.fst = A.sch.goneM 1099511627777 ∧ r.xs.length ≤ 64 ∧ v = .slice r.addr r.xs.length r.cap ∧ L = [r.h frT, radH p C ca cc (raExp A 1099511627777)]) := by
 refine TF 34 Tryz.func182 Z yn tabOk Z Z ?_
 refine xdz ?_
 refine VC.opn 0 Z (HOpn.rad p C ca cc A) ?_
 rintro sp -
 show VC _ _ _ [pt p (radCs C ca cc A sp) radT, rfH sp ca A.sch] _
 refine VC.opn 1 Z (HOpn.rf sp ca A.sch) ?_
 rintro s hs
 have h64 : (A.sch.goneM 1099511627777).length ≤ 64 := by have := hs.wf.fewG A.sch.cls.length 1099511627777; rw [List.take_length] at this; exact this
 refine CN (L' := [rfH sp ca A.sch, pt p (radCs C ca cc A sp) radT]) ?_ ?_
 ·exact Imp.ent (Imp.app (L := rfL sp A.sch s) (rf_shut s hs Imp.refl) Imp.refl)
 refine xgw ?_
 refine xgu ?_
 refine VG (VK (Lc := [rfH sp ca A.sch]) (fun Fr w hF hs hS => Ref16.expire_spec Fr w sp ca A.sch 1099511627777) Z Z ?_)
 rintro _ _ ⟨a, c, gs, hgs, rfl, rfl⟩
 refine xfu ?_
 refine VC.opn 1 Z (HOpn.rl frT a c gs fmc_len) ?_
 rintro r ⟨hok, hv, hrx⟩
 rw [← hv]
 rw [← hrx] at hgs
 obtain ⟨A0, hA0⟩ : ∃ A0, A0 = A.withSch (A.sch.expM 1099511627777) := ⟨_, rfl⟩
 obtain ⟨gs0, hg0⟩ : ∃ gs0, gs0 = A.sch.goneM 1099511627777 := ⟨_, rfl⟩
 rw [← hg0] at hgs h64
 have hlen : r.xs.length = gs0.length := by rw [← hgs, List.length_map]
 have ra : C.clients = A0.clients ∧ A0.marks.length = 6 ∧ A0.clients ≤ 6 := by subst hA0; exact ⟨ra.cl, ra.marks, ra.c6⟩
 rw [show radCs C ca cc A sp = radCs C ca cc (barAll A0 []) sp from by rw [hA0]; rfl, show A.sch.expM 1099511627777 = A0.sch from by rw [hA0]; rfl]
 refine CN (L' := [pt p (radCs C ca cc (barAll A0 []) sp) radT, rfH sp ca A0.sch, r.h frT]) (Imp.ent (pkZ [2, 1, 0])) ?_
 refine CS ?_
 refine VC.meetS (σ := Unit) (fun _ => [(0, pV p), (3, .slice r.addr r.xs.length r.cap)]) (fun _ => [pt p (radCs C ca cc (barAll A0 gs0) sp) radT, rfH sp ca A0.sch, r.h frT] ++ []) (fun _ => True) ?_ ?_
 ·refine xdz ?_
  show VC _ _ _ _ _
  refine xje ?_
  refine VC.loop (σ := Nat) (fun i => [(0, pV p), (3, .slice r.addr r.xs.length r.cap), (4, .int .i64 i)]) (fun i => [pt p (radCs C ca cc (barAll A0 (gs0.take i)) sp) radT, rfH sp ca A0.sch, r.h frT] ++ []) (fun i => i ≤ r.xs.length) (fun i => r.xs.length - i) 0
   (Nat.zero_le _) sbZ ER ?_
  rintro i hi
  refine xdv ?_
  refine CP (p := (i : Int) < (r.xs.length : Int)) Z (fun h1 => CK ?_) (fun h1 => CX ?_)
  rotate_left
  ·have hi2 : i = gs0.length := by omega
   subst hi2
   rw [List.take_length]
   exact xgr
  have h1 : i < r.xs.length := by omega
  obtain ⟨y, hy⟩ : ∃ y, r.xs[i]? = some y := ⟨_, GE h1⟩
  have hyl : gs0[i]? = some y.1 := by rw [← hgs, List.getElem?_map, hy]; rfl
  have htk : gs0.take (i + 1) = gs0.take i ++ [y.1] := by rw [List.take_add_one, hyl]; rfl
  obtain ⟨tb, tof, htb, hta, hrd⟩ := RL.Ok.ld (t := frT) hok hy (fmc_len y)
  obtain ⟨k1, k2, k3⟩ := barAll_same (gs0.take i) A0
  rw [hta]
  refine CS (VC.block (CD (ts 0 16 (.only 16 .nil)) yn yq ?_))
  refine xlv ?_
  refine xdr ?_
  refine VA.go (VA.load Z Z Z ((hrd 2 Z).2 _ 2 _ Z Z) ?_)
  refine xlv ?_
  refine xdr ?_
  refine VA.go (VA.load Z Z Z ((hrd 2 Z).2 _ 3 _ Z Z) ?_)
  refine xlv ?_
  refine xdr ?_
  refine VA.go (VA.load Z Z Z ((hrd 2 Z).2 _ 4 _ Z Z) ?_)
  refine VA.go (AQ 0 (ψ := fun v H => H = pt p (radCs C ca cc ((barAll A0 (gs0.take i)).barM y.1.client y.1.seq y.1.try_).2 sp) radT) Z (fun Fr w hF hs _ => rbar_spec Fr w (ra.1.trans k1.symm) (by rw [k2]; exact ra.2.1) (by rw [k1]; exact ra.2.2) y.1.client y.1.seq y.1.try_) Z Z ybh (fun v H h => by exact yr) ?_)
  rintro _ _ rfl
  refine xem ?_
  rw [← hta]
  show VC _ _ _ _ _
  refine xdv ?_
  refine xds ?_
  refine xdv ?_
  exact ⟨i + 1, h1, by dsimp only; omega, sbZ, by dsimp only; rw [htk, barAll_snoc]; exact ER⟩
 rintro _ -
 refine xdj ?_
 have hfin : raExp A 1099511627777 = barAll A0 gs0 := by rw [raExp, hA0, hg0]
 refine CR (Ret.tmp 2 Z Z (Imp.ent (IP 2 Z (Imp.rad (A := raExp A 1099511627777) sp (IP 0 (by rw [hfin]; rfl) (IP 0 (by rw [hfin, (barAll_same gs0 A0).2.2]; rfl) Imp.nil))))) ⟨r, hok, by rw [hgs, hg0], by omega, Z, Z⟩)
end
end Nd
namespace Nd
open Go Vg T Api Kv Ch Lg Rd Win Adm Sched Conf Rep Ref16 Rk
attribute [local irreducible] VO VC VA
abbrev rsnT : TypeId := 216
structure NdM where
 id : Int
 ch : ChM
 since : Int
 whole : Bool
 st : Int
 bs : Int
 log : List EntryM
 done : Int
 sent : Int
 limit : Int
 have_ : Int
 adm : AdmM
 rds : RdsM
 linked : Bool
 out : List SndM
structure NmS where
 lp : Nat
 ap : Nat
 rp : Nat
 oa : Option Addr
 oc : Nat
abbrev MemP := Option Addr × Nat
def nmCs (C : ConfM) (ca : Option Addr) (cc : Nat) (m : MemP) (n : NdM) (y : NmS) : List Value := C.cells ca cc ++ (.int .i64 n.id :: (n.ch.cells m.1 m.2 ++ [.int .i64 n.since, .bool n.whole, .int .i64 n.st, .int .i64 n.bs, .pointer (some ⟨y.lp, 0, none⟩), .int .i64 n.done, .int .i64 n.sent, .int .i64 n.limit, .int .i64 n.have_, .pointer (some ⟨y.ap, 0, none⟩), .pointer (some ⟨y.rp, 0, none⟩), .bool n.linked, .slice y.oa n.out.length y.oc]))
def nmL (p : Nat) (C : ConfM) (ca : Option Addr) (cc : Nat) (m : MemP) (n : NdM) (y : NmS) : List HP := [pt p (nmCs C ca cc m n y) ndT, rlogH y.lp n.log, radH y.ap C ca cc n.adm, rrdsH y.rp n.rds, slH rsnT 30 y.oa n.out.length y.oc (flat sndC n.out)]
def nmH (p : Nat) (C : ConfM) (ca : Option Addr) (cc : Nat) (m : MemP) (n : NdM) : HP := hex fun y => hsep (nmL p C ca cc m n y)
theorem HOpn.nm (p : Nat) (C : ConfM) (ca : Option Addr) (cc : Nat) (m : MemP) (n : NdM) : HOpn (ι := NmS) (nmH p C ca cc m n) (fun _ => True) (fun y => nmL p C ca cc m n y) := fun w ids ⟨x, h⟩ hn => ⟨x, trivial, ids, h, hn, fun _ h => h⟩
theorem Imp.nm {p : Nat} {C : ConfM} {ca : Option Addr} {cc : Nat} {m : MemP} {n : NdM} {L M : List HP} (y : NmS) (h : Imp L (nmL p C ca cc m n y ++ M)) : Imp L (nmH p C ca cc m n :: M) :=
 Imp.ex (f := fun y => hsep (nmL p C ca cc m n y)) y (Imp.sep (Ls := nmL p C ca cc m n y) h)
structure NmIn (Fr : Nat → Prop) (w : World) (p : Nat) (C : ConfM) (ca : Option Addr) (cc : Nat) (m : MemP) (n : NdM) (y : NmS) : Prop where
 blk : Blk Fr w p (nmCs C ca cc m n y)
 log : SatIn Fr [rlogH y.lp n.log] w
 adm : SatIn Fr [radH y.ap C ca cc n.adm] w
 rds : SatIn Fr [rrdsH y.rp n.rds] w
section
variable {p : Nat} {C : ConfM} {ca : Option Addr} {cc : Nat} {m : MemP} {n : NdM} {y : NmS}
theorem NmIn.of {Fr : Nat → Prop} {w : World} (h : SatIn Fr [nmH p C ca cc m n] w) : ∃ y, NmIn Fr w p C ca cc m n y := by
 obtain ⟨y, h⟩ := h.ex
 have h := h.sep
 exact ⟨y, h.blk 0 Z, h.at_ 1 Z, h.at_ 2 Z, h.at_ 3 Z⟩
theorem NmIn.of' {X : Cx} (h : NmIn X.Fr X.w0 p C ca cc m n y) {Fr' : Nat → Prop} {w : World} {L : List HP} (hF : ∀ b, X.Fr b → Fr' b) (hs : St X L w) : NmIn Fr' w p C ca cc m n y :=
 ⟨h.blk.of hF hs, h.log.of hF hs, h.adm.of hF hs, h.rds.of hF hs⟩
theorem NmIn.pcs {Fr : Nat → Prop} {w : World} {L : List HP} (h : SatIn Fr L w) (i : Nat) (h0 : L[i]? = some (pt p (nmCs C ca cc m n y) ndT)) (h1 : L[i + 1]? = some (rlogH y.lp n.log)) (h2 : L[i + 2]? = some (radH y.ap C ca cc n.adm)) (h3 : L[i + 3]? = some (rrdsH y.rp n.rds)) : NmIn Fr w p C ca cc m n y :=
 ⟨h.blk i h0, h.at_ _ h1, h.at_ _ h2, h.at_ _ h3⟩
def NdM.place (n : NdM) : Int := if 0 < n.since then placeOf n.ch.ms n.id else -1
def NdM.at_ (n : NdM) (i : Int) : Int := if n.place < 0 ∨ i < 0 ∨ (n.ch.ms.length : Int) ≤ i then -1 else ((n.ch.ms[i.toNat]?).getD (0, 0)).1
def NdM.tail (n : NdM) : Bool := decide (0 ≤ n.place) && (n.place == (n.ch.ms.length : Int) - 1)
def NdM.drains (n : NdM) : Bool := decide (0 ≤ n.place) && (n.ch.drain == n.id)
theorem place_bd (n : NdM) : -1 ≤ n.place ∧ n.place < n.ch.ms.length := by
 unfold NdM.place
 split
 ·rcases place_range n.ch.ms n.id with h | ⟨i, m, h, h1, _⟩ <;> omega
 ·omega
theorem nplace_spec (h : NmIn Fr w p C ca cc m n y) (hm : RwIn memC 2 Fr w m.1 n.ch.ms) (hl : n.ch.ms.length ≤ 1000) : Tri Tryz.prog 89 [.pointer (some ⟨p, 0, none⟩)] Fr w [] (fun v L => v = .int .i64 n.place ∧ L = []) := by
 have hb := h.blk
 refine TF 36 Tryz.func89 Z yn tabOk Z Z ?_
 refine xdz ?_
 refine CS (CS (CG (VG (VN ?_))))
 show VC _ _ _ _ _
 refine xje ?_
 refine VC.loop (σ := Nat) (fun i => [(0, pV p), (3, .int .i64 i)]) (fun _ => []) (fun i => i ≤ n.ch.ms.length ∧ ∀ j x, j < i → n.ch.ms[j]? = some x → x.1 ≠ n.id) (fun i => n.ch.ms.length - i) 0
  ⟨Nat.zero_le _, fun j x hj => by omega⟩ sbZ ER ?_
 rintro i ⟨hi, hno⟩
 refine xir ?_
 by_cases h1 : i < n.ch.ms.length
 rotate_left
 ·refine VG (VY 12 false Z (DF ye) ?_)
  refine xkn ?_
  refine VC.condF Z (CX ?_)
  show VC _ _ _ _ _
  refine xdj ?_
  refine CR (Ret.int 2 Z Z ?_ ER ⟨rfl, Z⟩)
  rw [NdM.place, place_miss (fun j x hj hx => hno j x ye hx), ite_self]
 refine VG (VY 12 true Z (DT ye) ?_)
 refine xir ?_
 refine CP (p := 0 < n.since) Z (fun h2 => CK ?_) (fun h2 => CX ?_)
 rotate_left
 ·show VC _ _ _ _ _
  refine xdj ?_
  refine CR (Ret.int 2 Z Z ?_ ER ⟨rfl, Z⟩)
  rw [NdM.place, if_neg h2]
 obtain ⟨k, hk⟩ : ∃ k, n.ch.ms[i]? = some k := ⟨_, GE h1⟩
 obtain ⟨mb, mo, hma, ra, rc⟩ := RwIn.rd (X := ⟨Tryz.prog, tab, tabOk, 36, Fr, w⟩) hm hk
 have hb2 := hb
 unfold nmCs at hb2
 rw [hma] at hb2
 refine CS (VC.block (CS (CD (ts 0 14 .nil) yn yq ?_)))
 (repeat (first|refine yG (yN ?_)|refine yG (yE rfl rfl rfl (RdL.blk hb2 rfl) ?_)))
 refine xlv ?_
 refine xew ?_
 refine VA.go (VA.load Z Z Z (rc _ _ 0 _ Z Z) ?_)
 refine xew ?_
 show VC _ _ _ _ _
 refine CE (i := k.1) (j := n.id) Z (fun h3 => ?_) (fun h3 => CK ?_)
 ·refine xdj ?_
  refine CR (Ret.int 2 Z Z ?_ ER ⟨rfl, Z⟩)
  rw [NdM.place, if_pos h2, place_hit hk h3 hno]
 ·show VC _ _ _ _ _
  refine zoc ?_
  exact ⟨i + 1, ⟨h1, fun j x hj hx => by
   by_cases hji : j = i
   ·subst hji; rw [hk] at hx; cases hx; exact h3
   ·exact hno j x ye hx⟩, by dsimp only; omega, sbZ, ER⟩
theorem nat_spec (h : NmIn Fr w p C ca cc m n y) (hm : RwIn memC 2 Fr w m.1 n.ch.ms) (hl : n.ch.ms.length ≤ 1000) (i : Int) : Tri Tryz.prog 98 [.pointer (some ⟨p, 0, none⟩), .int .i64 i] Fr w [] (fun v L => v = .int .i64 (n.at_ i) ∧ L = []) := by
 have hb := h.blk
 refine TF 31 Tryz.func98 Z yn tabOk Z Z ?_
 refine xkn ?_
 refine VG (VV (fun Fr w hF hs _ => nplace_spec Fr w (h.of' hF hs) (RwIn.of hm hF hs) hl) Z ?_)
 refine xkn ?_
 by_cases h1 : n.place < 0
 ·refine VG (VY 8 true Z (DT h1) ?_)
  refine xkn ?_
  refine VG (VY 12 true Z Z ?_)
  refine xkn ?_
  refine znw ?_
  exact CR (Ret.int 4 Z Z (by rw [NdM.at_, if_pos (.inl h1)]) ER ⟨rfl, Z⟩)
 refine VG (VY 8 false Z (DF h1) ?_)
 refine xkn ?_
 by_cases h2 : i < 0
 ·refine VG (VY 12 true Z (DT h2) ?_)
  refine xkn ?_
  refine znw ?_
  exact CR (Ret.int 4 Z Z (by rw [NdM.at_, if_pos (.inr (.inl h2))]) ER ⟨rfl, Z⟩)
 refine VG (VY 12 false Z (DF h2) ?_)
 refine xir ?_
 refine CP (p := (n.ch.ms.length : Int) ≤ i) Z (fun h3 => ?_) (fun h3 => CK ?_)
 ·refine xdj ?_
  exact CR (Ret.int 4 Z Z (by rw [NdM.at_, if_pos (.inr (.inr h3))]) ER ⟨rfl, Z⟩)
 have hk1 : i.toNat < n.ch.ms.length := by omega
 obtain ⟨k, hk⟩ : ∃ k, n.ch.ms[i.toNat]? = some k := ⟨_, GE hk1⟩
 obtain ⟨mb, mo, hma, ra, rc⟩ := RwIn.rd (X := ⟨Tryz.prog, tab, tabOk, 31, Fr, w⟩) hm hk
 have hb2 := hb
 unfold nmCs at hb2
 rw [hma] at hb2
 (repeat (first|refine zS ?_|refine zR ?_|refine zB ?_|refine zL ?_|refine zC ?_|refine zG (zN ?_)|refine zG (zE rfl rfl (RdL.blk hb2 rfl) ?_)|refine zG (zU rfl rfl rfl ?_)))
 refine VG (VI (light_idx i.toNat Z Z Z Z Z ye hk1) ?_)
 refine xkn ?_
 refine xfq ?_
 refine xkn ?_
 exact CR (Ret.int 4 Z Z (by rw [NdM.at_, if_neg ye, hk]; rfl) ER ⟨rfl, Z⟩)
end
end Nd
namespace Nd
open Go Vg T Api Kv Ch Lg Rd Win Adm Sched Conf Rep Ref16 Rk
attribute [local irreducible] VO VC VA
section
variable {p : Nat} {C : ConfM} {ca : Option Addr} {cc : Nat} {m : MemP} {n : NdM} {y : NmS}
theorem RdL.nm {X : Cx} {L : List HP} {ti : TI} {off : Nat} {v : Value} (i : Nat) (hL : L[i]? = some (nmH p C ca cc m n)) (hv : ∀ y, (nmCs C ca cc m n y)[off]? = some v) (ha : ti.und.agg = false := by rfl) : RdL X L ti p off v := fun w hw => by
 obtain ⟨y, -, h⟩ := (HOpn.nm p C ca cc m n).st i hL w hw
 exact RdL.one 0 Z (hv y) ha w h
theorem nlast_spec (h : NmIn Fr w p C ca cc m n y) : Tri Tryz.prog 91 [.pointer (some ⟨p, 0, none⟩)] Fr w [] (fun v L => v = .int .i64 n.log.length ∧ L = []) := by
 have hb := h.blk
 refine TF 8 Tryz.func91 Z yn tabOk Z Z ?_
 refine xer ?_
 refine VG (VV (fun Fr w hF hs _ => rllen_spec Fr w (h.log.of hF hs)) Z ?_)
 refine xdj ?_
 exact xee
theorem ntail_spec (h : NmIn Fr w p C ca cc m n y) (hm : RwIn memC 2 Fr w m.1 n.ch.ms) (hl : n.ch.ms.length ≤ 1000) : Tri Tryz.prog 172 [.pointer (some ⟨p, 0, none⟩)] Fr w [] (fun v L => v = .bool n.tail ∧ L = []) := by
 have hb := h.blk
 refine TF 18 Tryz.func172 Z yn tabOk Z Z ?_
 refine xdz ?_
 refine CS (CD (.take 0 (.only 1 (ts 2 3 (ts 6 6 (.take 12 (.only 5 (ts 13 3 .nil))))))) yn yq ?_)
 refine xlw ?_
 by_cases h1 : 0 ≤ n.place
 rotate_left
 ·refine VA.go (AY 6 false Z (DF h1) ?_)
  refine xhw ?_
  refine xlx ?_
  exact CR (Ret.bool 2 Z Z (by rw [NdM.tail, DF h1]; rfl) ER ⟨rfl, Z⟩)
 refine VA.go (AY 6 true Z (DT h1) ?_)
 refine xew ?_
 refine VA.go (VA.sub' Z Z Z ye ye ?_)
 refine VA.go (AR (fun Fr w hF hs _ => nplace_spec Fr w (h.of' hF hs) (RwIn.of hm hF hs) hl) Z Z yw ?_)
 refine xlx ?_
 exact CR (Ret.bool 2 Z Z (by rw [NdM.tail, DT h1]; rfl) ER ⟨rfl, Z⟩)
theorem ndrains_spec (h : NmIn Fr w p C ca cc m n y) (hm : RwIn memC 2 Fr w m.1 n.ch.ms) (hl : n.ch.ms.length ≤ 1000) : Tri Tryz.prog 90 [.pointer (some ⟨p, 0, none⟩)] Fr w [] (fun v L => v = .bool n.drains ∧ L = []) := by
 have hb := h.blk
 refine TF 18 Tryz.func90 Z yn tabOk Z Z ?_
 refine xdz ?_
 refine CS (CD (.take 0 (.only 1 (ts 2 14 .nil))) yn yq ?_)
 refine xlw ?_
 by_cases h1 : 0 ≤ n.place
 rotate_left
 ·refine VA.go (AY 6 false Z (DF h1) ?_)
  refine xlx ?_
  exact CR (Ret.bool 2 Z Z (by rw [NdM.drains, DF h1]; rfl) ER ⟨rfl, Z⟩)
 refine VA.go (AY 6 true Z (DT h1) ?_)
 refine xew ?_
 exact CR (Ret.bool 2 Z Z (by rw [NdM.drains, DT h1]; rfl) ER ⟨rfl, Z⟩)
def NdM.send (n : NdM) (to : Int) (f : FrameM) : NdM := { n with out := n.out ++ [(to, f)] }
theorem nsend_spec (ho : n.out.length ≤ 10000000) (to : Int) (f : FrameM) : Tri Tryz.prog 97 [.pointer (some ⟨p, 0, none⟩), .int .i64 to, .agg (fgC f mem0).toArray] Fr w [nmH p C ca cc m n]
  (fun v L => v = .tuple #[] ∧ L = [nmH p C ca cc m (n.send to f)]) := by
 refine TF 18 Tryz.func97 Z yn tabOk Z Z ?_
 refine CS (CG (VG (VB (vs := fgC f mem0) Z fun fb => VG (VN ?_))))
 refine xly ?_
 rintro y -
 show VC _ _ _ [pt p (nmCs C ca cc m n y) ndT, rlogH y.lp n.log, radH y.ap C ca cc n.adm, rrdsH y.rp n.rds, slH rsnT 30 y.oa n.out.length y.oc (flat sndC n.out), pt fb (fgC f mem0) frT] _
 refine xij ?_
 refine xdr ?_
 refine VA.go (VA.ldA 5 (fgC f mem0) Z Z Z Z Z ?_)
 refine xlz ?_
 refine VA.go (AO (OpT.buildSlice (n := 1) (pv := [(0, .agg (sndC (to, f)).toArray)]) (cells := sndC (to, f)) Z Z Z Z yy (fill_one Z Z Z)) Z ?_ ?_)
 ·rintro v L' ⟨nb, rfl, rfl⟩
  exact yr
 rintro v L' ⟨nb, rfl, rfl⟩
 refine VA.go (AO (OpT.append (m := 1) (news := sndC (to, f)) 5 Z Z Z Z Z Z Z (RdRow.pt 0 Z Z Z) Z (small_bytes (k := 10000001) ye yy) ye) Z ?_ ?_)
 ·rintro v L' ⟨a2, c2, rfl, hc2, rfl⟩
  exact yr
 rintro v L' ⟨a2, c2, rfl, hc2, rfl⟩
 refine xjh ?_
 have hlen : (n.send to f).out.length = n.out.length + 1 := by show (n.out ++ [(to, f)]).length = _; simp
 refine VA.go (VA.st 2 (cs' := nmCs C ca cc m (n.send to f) ⟨y.lp, y.ap, y.rp, a2, c2⟩) Z Z Z Z Z ycf (by unfold nmCs; rw [hlen]; rfl) Z yr (VA.go (AN ?_)))
 refine Ret.void Z (Imp.ent (Imp.nm (n := n.send to f) ⟨y.lp, y.ap, y.rp, a2, c2⟩ ?_)) ⟨rfl, Z⟩
 unfold nmL
 rw [hlen, show flat sndC (n.send to f).out = flat sndC n.out ++ sndC (to, f) from by show flat sndC (n.out ++ [(to, f)]) = _; simp [flat_append, flat_cons, flat_nil]]
 exact (pkZ [2, 2, 2, 2, 0])
def NdM.reply (n : NdM) (c s t : Int) (r : ResM) : NdM := n.send (32 + c) (replyF c s t r)
def NdM.refuse (n : NdM) (f : FrameM) (x : Int) : NdM := n.send (32 + f.client) (refuseF n.ch.epoch f x)
theorem nreply_spec (ho : n.out.length ≤ 10000000) (c s t : Int) (hc0 : -1000000 ≤ c) (hc1 : c ≤ 1000000) (r : ResM) : Tri Tryz.prog 120 [.pointer (some ⟨p, 0, none⟩), .int .i64 c, .int .i64 s, .int .i64 t, .agg (resC r).toArray] Fr w [nmH p C ca cc m n]
  (fun v L => v = .tuple #[] ∧ L = [nmH p C ca cc m (n.reply c s t r)]) := by
 refine TF 19 Tryz.func120 Z yn tabOk Z Z ?_
 refine CS (CG (VG (VB (vs := resC r) Z fun rb => VG (VN ?_))))
 refine CG ?_
 refine zoa ?_
 refine VG (VL 0 (resC r) Z Z Z Z ?_)
 refine xma ?_
 refine VG (VQ 1 (ψ := fun v H => H = nmH p C ca cc m (n.reply c s t r)) Z (fun Fr w hF hs _ => nsend_spec Fr w ho _ _) Z ybh ?_)
 rintro _ _ rfl
 refine xfu ?_
 exact xip
theorem nrefuse_spec (ho : n.out.length ≤ 10000000) (f : FM) (x : Int) (hc0 : -1000000 ≤ f.1.client) (hc1 : f.1.client ≤ 1000000) : Tri Tryz.prog 88 [.pointer (some ⟨p, 0, none⟩), .agg (fmc f).toArray, .int .i64 x] Fr w [nmH p C ca cc m n]
  (fun v L => v = .tuple #[] ∧ L = [nmH p C ca cc m (n.refuse f.1 x)]) := by
 refine TF 24 Tryz.func88 Z yn tabOk Z Z ?_
 refine CS (CG (VG (VB (vs := fmc f) Z fun fb => VG (VN ?_))))
 refine xly ?_
 rintro y -
 show VC _ _ _ [pt p (nmCs C ca cc m n y) ndT, rlogH y.lp n.log, radH y.ap C ca cc n.adm, rrdsH y.rp n.rds, slH rsnT 30 y.oa n.out.length y.oc (flat sndC n.out), pt fb (fmc f) frT] _
 refine CD (ts 0 17 (.only 17 .nil)) yn yq ?_
 refine xfb ?_
 refine xdq ?_
 refine xfb ?_
 refine VA.go (AI Z (LB (pv := [(0, .int .i64 3), (1, .int .i64 n.ch.epoch), (2, .int .i64 f.1.client), (3, .int .i64 f.1.seq), (4, .int .i64 f.1.try_), (9, .int .i64 x)]) (fgC (refuseF n.ch.epoch f.1 x) mem0) Z Z Z yn Z) ?_)
 refine VA.ent (L' := [nmH p C ca cc m n, pt fb (fmc f) frT]) (Imp.nm y (IP 0 Z (IP 0 Z (IP 0 Z (IP 0 Z (IP 0 Z Imp.refl)))))).ent ?_
 refine VA.go (AQ 0 (ψ := fun v H => H = nmH p C ca cc m (n.refuse f.1 x)) Z (fun Fr w hF hs _ => nsend_spec Fr w ho _ _) Z Z ybh (fun v H h => by rw [h]; exact (by (try refine Pd.st ?_);(repeat (first|exact Pd.nil|exact Pd.fnil|refine Pd.inner ?_|refine Pd.skip yq ?_|refine zf (zo 0 Z Z) ?_|refine zf (zo 1 Z Z) ?_|refine zf (zm 0 Z Z) ?_|refine zf (zm 1 Z Z) ?_|refine zf (RdL.blk (RdL.nm 0 Z (fun _ => rfl)) Z) ?_|refine zf ((RdL.nm 0 Z (fun _ => rfl))) ?_|refine zc (zo 0 Z Z) ?_|refine zc (zo 1 Z Z) ?_|refine zc (zm 0 Z Z) ?_|refine zc (zm 1 Z Z) ?_|refine zc (RdL.blk (RdL.nm 0 Z (fun _ => rfl)) Z) ?_|refine zc ((RdL.nm 0 Z (fun _ => rfl))) ?_)))) ?_)
 rintro _ _ rfl
 refine xem ?_
 exact xmb
structure NdOk (C : ConfM) (n : NdM) : Prop where
 ms : n.ch.ms.length ≤ 1000
 log : n.log.length ≤ 4096
 num : Num n.log
 logc : ∀ e ∈ n.log, 0 ≤ e.client ∧ e.client < 6
 ra : RaOk C n.adm
 calls : n.adm.Calls
 d0 : 0 ≤ n.done
 d1 : n.done ≤ n.log.length
 s0 : 0 ≤ n.sent
 s1 : n.sent ≤ n.log.length
 w0 : 1 ≤ C.window
 w1 : C.window ≤ 16
 rl : n.rds.l.length ≤ 16
 rc : n.rds.cap ≤ 16
 rn0 : 0 ≤ n.rds.last
 rn1 : n.rds.last ≤ 100000000
 rcl : ∀ x ∈ n.rds.l, 0 ≤ x.f.client ∧ x.f.client ≤ 1000
def NdM.ahead (n : NdM) : Int := n.at_ (n.place - 1)
def NdM.next (n : NdM) : Int := n.at_ (n.place + 1)
def NdM.grant (C : ConfM) (n : NdM) : Int := if n.drains then n.log.length else n.done + C.window
def NdM.greet (C : ConfM) (n : NdM) : NdM := if n.ahead < 0 then n else n.send n.ahead (ackF n.ch.epoch n.done (n.grant C) n.log.length)
def NdM.base (n : NdM) : NdM := if n.whole = true ∧ 0 ≤ n.place ∧ 0 ≤ n.next then n.send n.next (baseF n.ch.epoch n.st) else n
def NdM.alive (n : NdM) : NdM := n.send 16 (aliveF n.ch.epoch (if n.whole then 1 else 0))
def NdM.ackB (n : NdM) (i : Int) : Bool := decide (n.done < i) && decide (i ≤ n.log.length)
def NdM.ack (n : NdM) (i : Int) : NdM := if n.ackB i then { n with done := i } else n
theorem ngreet_spec (ok : NdOk C n) (hm : RwIn memC 2 Fr w m.1 n.ch.ms) (ho : n.out.length ≤ 10000000) : Tri Tryz.prog 105 [.pointer (some ⟨p, 0, none⟩)] Fr w [nmH p C ca cc m n]
  (fun v L => v = .tuple #[] ∧ L = [nmH p C ca cc m (n.greet C)]) := by
 have pb := place_bd n
 have h1 := ok.ms; have h2 := ok.d0; have h3 := ok.d1; have h4 := ok.log; have h5 := ok.w0; have h6 := ok.w1
 refine TF 41 Tryz.func105 Z yn tabOk Z Z ?_
 refine xmc ?_
 rintro y -
 show VC _ _ _ [pt p (nmCs C ca cc m n y) ndT, rlogH y.lp n.log, radH y.ap C ca cc n.adm, rrdsH y.rp n.rds, slH rsnT 30 y.oa n.out.length y.oc (flat sndC n.out)] _
 have back : ∀ {X : Cx}, Ent X [pt p (nmCs C ca cc m n y) ndT, rlogH y.lp n.log, radH y.ap C ca cc n.adm, rrdsH y.rp n.rds, slH rsnT 30 y.oa n.out.length y.oc (flat sndC n.out)] [nmH p C ca cc m n] := (Imp.nm y (pkZ [0, 0, 0, 0, 0])).ent
 refine xdj ?_
 refine VG (VV (fun Fr w hF hs hS => nplace_spec Fr w (NmIn.pcs hS 0 Z Z Z Z) (RwIn.of hm hF hs) ok.ms) Z ?_)
 refine xet ?_
 refine VG (VV (fun Fr w hF hs hS => nat_spec Fr w (NmIn.pcs hS 0 Z Z Z Z) (RwIn.of hm hF hs) ok.ms (n.place - 1)) Z ?_)
 refine xdj ?_
 refine CP (p := n.at_ (n.place - 1) < 0) Z (fun h7 => ?_) (fun h7 => CK ?_)
 ·exact CR (Ret.void Z back ⟨rfl, by rw [NdM.greet, NdM.ahead, if_pos h7]⟩)
 have hg : n.greet C = n.send n.ahead (ackF n.ch.epoch n.done (n.grant C) n.log.length) := by rw [NdM.greet, NdM.ahead, if_neg h7]
 refine CS (CD (ts 0 11 .nil) yn yq ?_)
 refine xdr ?_
 refine xdq ?_
 refine xdr ?_
 refine CS ?_
 refine VC.meetS (σ := Unit) (fun _ => [(0, pV p), (2, .int .i64 (n.at_ (n.place - 1))), (3, .int .i64 (n.grant C))]) (fun _ => [pt p (nmCs C ca cc m n y) ndT, rlogH y.lp n.log, radH y.ap C ca cc n.adm, rrdsH y.rp n.rds, slH rsnT 30 y.oa n.out.length y.oc (flat sndC n.out)]) (fun _ => True) ?_ ?_
 ·refine xdj ?_
  refine xmd ?_
  refine xdj ?_
  refine CC Z (fun h8 => ?_) (fun h8 => CK ?_)
  ·refine xdj ?_
   refine xme ?_
   refine xdj ?_
   exact ⟨(), trivial, SC Z (SC Z (SC (by rw [NdM.grant, if_pos h8]; rfl) (SN _))), ER⟩
  ·exact ⟨(), trivial, SC Z (SC Z (SC (by rw [NdM.grant, if_neg (by rw [h8]; simp)]; rfl) (SN _))), ER⟩
 rintro _ -
 refine CD (ts 0 13 (.only 13 (.take 14 (.only 15 .nil)))) yn yq ?_
 refine xdr ?_
 refine xmf ?_
 refine VA.go (AI Z (LB (pv := [(0, .int .i64 5), (1, .int .i64 n.ch.epoch), (12, .int .i64 n.done), (13, .int .i64 (n.grant C)), (14, .int .i64 n.log.length)]) (fgC (ackF n.ch.epoch n.done (n.grant C) n.log.length) mem0) Z Z Z yn Z) ?_)
 refine VA.ent back ?_
 refine VA.go (AQ 0 (ψ := fun v H => H = nmH p C ca cc m (n.send n.ahead (ackF n.ch.epoch n.done (n.grant C) n.log.length))) Z (fun Fr w hF hs _ => nsend_spec Fr w ho _ _) Z Z ybh (fun v H h => by rw [h]; exact ycg) ?_)
 rintro _ _ rfl
 refine xem ?_
 rw [← hg]
 exact xdy
end
end Nd
namespace Nd
open Go Vg T Api Kv Ch Lg Rd Win Adm Sched Conf Rep Ref16 Rk
attribute [local irreducible] VO VC VA
section
variable {p : Nat} {C : ConfM} {ca : Option Addr} {cc : Nat} {m : MemP} {n : NdM} {y : NmS}
theorem Imp.nmB {y : NmS} {M N : List HP} (h : Imp M N) : Imp (pt p (nmCs C ca cc m n y) ndT :: rlogH y.lp n.log :: radH y.ap C ca cc n.adm :: rrdsH y.rp n.rds :: slH rsnT 30 y.oa n.out.length y.oc (flat sndC n.out) :: M) (nmH p C ca cc m n :: N) :=
 Imp.nm y (IP 0 rfl (IP 0 rfl (IP 0 rfl (IP 0 rfl (IP 0 rfl h)))))
theorem nbase_spec (ms : n.ch.ms.length ≤ 1000) (hm : RwIn memC 2 Fr w m.1 n.ch.ms) (ho : n.out.length ≤ 10000000) : Tri Tryz.prog 106 [.pointer (some ⟨p, 0, none⟩)] Fr w [nmH p C ca cc m n]
  (fun v L => v = .tuple #[] ∧ L = [nmH p C ca cc m n.base]) := by
 have pb := place_bd n
 refine TF 34 Tryz.func106 Z yn tabOk Z Z ?_
 refine xmc ?_
 rintro y -
 show VC _ _ _ [pt p (nmCs C ca cc m n y) ndT, rlogH y.lp n.log, radH y.ap C ca cc n.adm, rrdsH y.rp n.rds, slH rsnT 30 y.oa n.out.length y.oc (flat sndC n.out)] _
 refine xdv ?_
 refine xmg ?_
 refine xds ?_
 refine VG (VV (fun Fr w hF hs hS => nat_spec Fr w (NmIn.pcs hS 0 Z Z Z Z) (RwIn.of hm hF hs) ms (n.place + 1)) Z ?_)
 refine xdv ?_
 have no : ¬ (n.whole = true ∧ 0 ≤ n.place ∧ 0 ≤ n.next) → n.base = n := fun h => by rw [NdM.base, if_neg h]
 refine VG (VO.split 12 Z Z (fun h1 => ?_) (fun h1 => ?_))
 rotate_left
 ·refine xdv ?_
  refine VG (VY 17 false Z Z ?_)
  refine zob ?_
  exact Ret.void rfl (Imp.nmB Imp.nil).ent ⟨rfl, by rw [no (fun h => by rw [h1] at h; cases h.1)]⟩
 refine xmg ?_
 refine xdv ?_
 by_cases h2 : 0 ≤ n.place
 rotate_left
 ·refine VG (VY 17 false Z (DF h2) ?_)
  refine zob ?_
  exact Ret.void Z (Imp.nmB Imp.nil).ent ⟨rfl, by rw [no (fun h => h2 h.2.1)]⟩
 refine VG (VY 17 true Z (DT h2) ?_)
 refine xdv ?_
 refine CP (p := 0 ≤ n.next) Z (fun h3 => ?_) (fun h3 => CK ?_)
 rotate_left
 ·exact Ret.void Z (Imp.nmB Imp.nil).ent ⟨rfl, by rw [no (fun h => h3 h.2.2)]⟩
 have hg : n.base = n.send n.next (baseF n.ch.epoch n.st) := by rw [NdM.base, if_pos ⟨h1, h2, h3⟩]
 refine CD (ts 0 12 (.only 12 .nil)) yn yq ?_
 refine xdr ?_
 refine VA.go (AI Z (LB (pv := [(0, .int .i64 6), (1, .int .i64 n.ch.epoch), (12, .int .i64 n.st)]) (fgC (baseF n.ch.epoch n.st) mem0) Z Z Z yn Z) ?_)
 refine VA.ent (Imp.nmB Imp.nil).ent ?_
 refine VA.go (AQ 0 (ψ := fun v H => H = nmH p C ca cc m (n.send n.next (baseF n.ch.epoch n.st))) Z (fun Fr w hF hs _ => nsend_spec Fr w ho _ _) Z Z ybh (fun v H h => by rw [h]; exact ycg) ?_)
 rintro _ _ rfl
 refine xem ?_
 rw [← hg]
 exact xdy
theorem nalive_spec (ho : n.out.length ≤ 10000000) : Tri Tryz.prog 104 [.pointer (some ⟨p, 0, none⟩)] Fr w [nmH p C ca cc m n]
  (fun v L => v = .tuple #[] ∧ L = [nmH p C ca cc m n.alive]) := by
 refine TF 16 Tryz.func104 Z yn tabOk Z Z ?_
 refine xmc ?_
 rintro y -
 show VC _ _ _ [pt p (nmCs C ca cc m n y) ndT, rlogH y.lp n.log, radH y.ap C ca cc n.adm, rrdsH y.rp n.rds, slH rsnT 30 y.oa n.out.length y.oc (flat sndC n.out)] _
 refine xdz ?_
 show VC _ _ _ _ _
 refine CS ?_
 refine VC.meetS (σ := Unit) (fun _ => [(0, pV p), (2, .int .i64 (if n.whole then 1 else 0))]) (fun _ => [pt p (nmCs C ca cc m n y) ndT, rlogH y.lp n.log, radH y.ap C ca cc n.adm, rrdsH y.rp n.rds, slH rsnT 30 y.oa n.out.length y.oc (flat sndC n.out)]) (fun _ => True) ?_ ?_
 ·refine xdj ?_
  refine CC Z (fun h => ?_) (fun h => CK ?_)
  ·refine xdj ?_
   exact ⟨(), trivial, by rw [h]; exact sbZ, ER⟩
  ·exact ⟨(), trivial, by rw [h]; exact sbZ, ER⟩
 rintro _ -
 refine xdj ?_
 refine VG (VI (LB (pv := [(0, .int .i64 11), (1, .int .i64 n.ch.epoch), (12, .int .i64 (if n.whole then 1 else 0))]) (fgC (aliveF n.ch.epoch (if n.whole then 1 else 0)) mem0) Z Z Z yn Z) ?_)
 refine VO.ent (Imp.nmB Imp.nil).ent ?_
 refine VG (VQ 0 (ψ := fun v H => H = nmH p C ca cc m n.alive) Z (fun Fr w hF hs _ => nsend_spec Fr w ho _ _) Z ybh ?_)
 rintro _ _ rfl
 refine xfu ?_
 exact xdy
theorem nack_spec (i : Int) : Tri Tryz.prog 118 [.pointer (some ⟨p, 0, none⟩), .int .i64 i] Fr w [nmH p C ca cc m n]
  (fun v L => v = .bool (n.ackB i) ∧ L = [nmH p C ca cc m (n.ack i)]) := by
 refine TF 21 Tryz.func118 Z yn tabOk Z Z ?_
 refine xmc ?_
 rintro y -
 show VC _ _ _ [pt p (nmCs C ca cc m n y) ndT, rlogH y.lp n.log, radH y.ap C ca cc n.adm, rrdsH y.rp n.rds, slH rsnT 30 y.oa n.out.length y.oc (flat sndC n.out)] _
 refine xdv ?_
 by_cases h1 : i ≤ n.done
 ·have e : n.ackB i = false := by rw [NdM.ackB, DF ye]; rfl
  refine VG (VY 11 true Z (DT h1) ?_)
  refine znz ?_
  exact xmh
 refine VG (VY 11 false Z (DF h1) ?_)
 refine xme ?_
 refine xdv ?_
 refine CP (p := (n.log.length : Int) < i) Z (fun h2 => ?_) (fun h2 => CK ?_)
 ·have e : n.ackB i = false := by rw [NdM.ackB, DF (show ¬ i ≤ n.log.length by omega), Bool.and_false]
  refine xdj ?_
  exact xmh
 have e : n.ackB i = true := by rw [NdM.ackB, DT (show n.done < i by omega), DT (show i ≤ n.log.length by omega)]; rfl
 have e2 : n.ack i = { n with done := i } := by rw [NdM.ack, if_pos e]
 refine xdj ?_
 refine VG (VO.st 0 (cs' := nmCs C ca cc m { n with done := i } y) Z Z Z Z ych Z Z ?_)
 refine xdj ?_
 refine CR (Ret.bool 4 Z Z e.symm ?_ ⟨rfl, Z⟩)
 rw [e2]
 exact Imp.ent (Imp.nmB (n := { n with done := i }) Imp.nil)
def NdM.wrong (n : NdM) (f : FrameM) (here : Bool) : Int := if f.epoch ≠ n.ch.epoch then 5 else if here = false then 4 else if n.whole = false then 8 else 0
theorem nwrong_spec (h : NmIn Fr w p C ca cc m n y) (f : FM) (here : Bool) : Tri Tryz.prog 177 [.pointer (some ⟨p, 0, none⟩), .agg (fmc f).toArray, .bool here] Fr w []
  (fun v L => v = .int .i64 (n.wrong f.1 here) ∧ L = []) := by
 have hb := h.blk
 refine TF 22 Tryz.func177 Z yn tabOk Z Z ?_
 refine CS (CG (VG (VB (vs := fmc f) Z fun b => VG (VN ?_))))
 refine CS (CS (CD (ts 0 8 .nil) yn yq ?_))
 refine xhv ?_
 refine VC.condNE (i := f.1.epoch) (j := n.ch.epoch) Z (fun h1 => ?_) (fun h1 => CK ?_)
 ·refine xdj ?_
  exact CR (Ret.int 6 Z Z (by rw [NdM.wrong, if_pos h1]) Imp.nil.ent ⟨rfl, Z⟩)
 have h1' : ¬ f.1.epoch ≠ n.ch.epoch := fun h => h h1
 refine xdj ?_
 cases here with
 | false =>
  refine znw ?_
  exact CR (Ret.int 6 Z Z (by rw [NdM.wrong, if_neg h1', if_pos rfl]) Imp.nil.ent ⟨rfl, Z⟩)
 | true =>
  refine xdn ?_
  refine xgb ?_
  refine CC Z (fun h2 => ?_) (fun h2 => CK ?_)
  ·refine xdj ?_
   exact CR (Ret.int 6 Z Z (by rw [NdM.wrong, if_neg h1', if_neg ya, if_pos (by simpa using h2)]) Imp.nil.ent ⟨rfl, Z⟩)
  ·refine xdj ?_
   exact CR (Ret.int 6 Z Z (by rw [NdM.wrong, if_neg h1', if_neg ya, if_neg (by simpa using h2)]) Imp.nil.ent ⟨rfl, Z⟩)
def NdM.replyN (n : NdM) (i : Int) : SndM := (32 + ((atI n.log i).getD entZ).client, replyF ((atI n.log i).getD entZ).client ((atI n.log i).getD entZ).seq 0 ((atI (logRun n.log).2 i).getD resZ))
def NdM.fin (n : NdM) (k : Nat) : NdM := { n with done := n.done + k, out := n.out ++ (List.range k).map fun j => n.replyN (n.done + 1 + (j : Nat)) }
def NdM.finish (n : NdM) : NdM := if n.tail then n.fin (n.log.length - n.done).toNat else n
theorem fin_succ (n : NdM) (k : Nat) : n.fin (k + 1) = { n.fin k with done := n.done + k + 1, out := (n.fin k).out ++ [n.replyN (n.done + 1 + k)] } := by
 have : n.done + ((k + 1 : Nat) : Int) = n.done + k + 1 := by omega
 unfold NdM.fin
 rw [this, List.range_succ, List.map_append, ← List.append_assoc]
 rfl
theorem nfinish_spec (ok : NdOk C n) (hm : RwIn memC 2 Fr w m.1 n.ch.ms) (ho : n.out.length ≤ 9000000) : Tri Tryz.prog 95 [.pointer (some ⟨p, 0, none⟩)] Fr w [nmH p C ca cc m n]
  (fun v L => v = .tuple #[] ∧ L = [nmH p C ca cc m n.finish]) := by
 have h1 := ok.ms; have h2 := ok.d0; have h3 := ok.d1; have h4 := ok.log
 have hrl := logRun_len n.log
 refine TF 54 Tryz.func95 Z yn tabOk Z Z ?_
 refine CS (CS (CG ?_))
 refine VG (VV (fun Fr w hF hs hS => by
  obtain ⟨y, h⟩ := NmIn.of (hS.at_ 0 rfl)
  exact ntail_spec Fr w h (RwIn.of hm hF hs) ok.ms) Z ?_)
 refine xfu ?_
 refine CC Z (fun ht => ?_) (fun ht => CK ?_)
 ·have ht : ¬ n.tail = true := by simpa using ht
  exact CR (Ret.void Z ER ⟨rfl, by rw [NdM.finish, if_neg ht]⟩)
 have ht : n.tail = true := by simpa using ht
 have hf : n.finish = n.fin (n.log.length - n.done).toNat := by rw [NdM.finish, if_pos ht]
 show VC _ _ _ _ _
 refine xje ?_
 refine VC.loop (σ := Nat) (fun k => [(0, pV p)]) (fun k => [nmH p C ca cc m (n.fin k)]) (fun k => n.done + k ≤ n.log.length) (fun k => n.log.length - k) 0
  (by simpa using h3) sbZ (by show Ent _ _ [nmH p C ca cc m (n.fin 0)]; rw [show n.fin 0 = n from by unfold NdM.fin; simp]; exact ER) ?_
 rintro k hk
 refine VC.opn 0 Z (HOpn.nm p C ca cc m (n.fin k)) ?_
 rintro y -
 show VC _ _ _ [pt p (nmCs C ca cc m (n.fin k) y) ndT, rlogH y.lp (n.fin k).log, radH y.ap C ca cc (n.fin k).adm, rrdsH y.rp (n.fin k).rds, slH rsnT 30 y.oa (n.fin k).out.length y.oc (flat sndC (n.fin k).out)] _
 refine CS (CS (CD (ts 0 5 (.only 5 (.take 6 .nil))) yn yq ?_))
 refine xdr ?_
 refine xmf ?_
 refine xem ?_
 refine CP (p := n.done + (k : Int) < (n.log.length : Int)) Z (fun h5 => CK ?_) (fun h5 => CX ?_)
 rotate_left
 ·have : k = (n.log.length - n.done).toNat := by omega
  subst this
  exact Ret.void Z (Imp.nmB Imp.nil).ent ⟨rfl, by rw [hf]⟩
 obtain ⟨N1, hN1⟩ : ∃ N1 : NdM, N1 = { n.fin k with done := n.done + k + 1 } := ⟨_, rfl⟩
 have eL : N1.log = n.log := by rw [hN1]; rfl
 have eO : N1.out = (n.fin k).out := by rw [hN1]
 have hol : (n.fin k).out.length = n.out.length + k := by unfold NdM.fin; simp
 have hi : N1.done = n.done + (k : Int) + 1 := by rw [hN1]
 refine xje ?_
 refine xdj ?_
 refine VG (VP Z Z (by show -9223372036854775808 ≤ n.done + (k : Int) + 1; omega) (by show n.done + (k : Int) + 1 ≤ 9223372036854775807; omega) ?_)
 refine VG (VO.st 0 (cs' := nmCs C ca cc m N1 y) Z Z Z Z ych (by rw [hN1]; rfl) Z ?_)
 refine xfu ?_
 show VC _ _ _ _ _
 refine CN (L' := [pt p (nmCs C ca cc m N1 y) ndT, rlogH y.lp N1.log, radH y.ap C ca cc N1.adm, rrdsH y.rp N1.rds, slH rsnT 30 y.oa N1.out.length y.oc (flat sndC N1.out)]) (by rw [hN1]; exact ER) ?_
 obtain ⟨e, he⟩ : ∃ e, e = (atI n.log N1.done).getD entZ := ⟨_, rfl⟩
 obtain ⟨r, hr⟩ : ∃ r, r = (atI (logRun n.log).2 N1.done).getD resZ := ⟨_, rfl⟩
 have hem : e ∈ n.log := by
  obtain ⟨_, x, _, _, hx, hat⟩ := atI_some (l := n.log) (i := N1.done) ye ye
  rw [he, hat]
  exact ME hx
 have hec := ok.logc e hem
 refine CS ?_
 refine VC.meetS (σ := Nat) (fun d => [(0, pV p), (2, pV d)]) (fun d => [nmH p C ca cc m N1, pt d (entC e) entT]) (fun _ => True) ?_ ?_
 ·refine xmi ?_
  refine xdr ?_
  refine VA.go (VA.two Z Z Z Z Z (OpT.callP (φ := fun v => v = .tuple #[.agg (entC e).toArray, .bool (atI n.log N1.done).isSome]) (fun Fr w hF hs hS => by rw [he, ← eL]; exact rlat_spec Fr w (hS.at_ 1 Z) N1.done ye ye) Z) Z Z Z (OpT.alloc Z) ?_ ?_ ?_ ?_)
  ·rintro _ _ ⟨rfl, rfl⟩
   exact yr
  ·rintro _ _ ⟨d, rfl, rfl⟩
   exact yr
  ·rintro _ _ ⟨rfl, rfl⟩
   refine VA.go (AO (OpT.alloc Z) Z ?_ ?_)
   ·rintro _ _ ⟨d, rfl, rfl⟩
    exact yr
   rintro _ _ ⟨d, rfl, rfl⟩
   refine xmj ?_
   refine xdr ?_
   exact xmk
  ·rintro _ _ ⟨d, rfl, rfl⟩
   refine VA.go (AR (fun Fr w hF hs hS => rlat_spec Fr w (hS.at_ 2 Z) N1.done ye ye) Z Z yr ?_)
   rw [show (atI N1.log N1.done).getD entZ = e from by rw [eL, he]]
   refine xmj ?_
   refine xdr ?_
   exact xmk
 rintro d -
 refine VC.opn 0 Z (HOpn.nm p C ca cc m N1) ?_
 rintro y2 -
 show VC _ _ _ [pt p (nmCs C ca cc m N1 y2) ndT, rlogH y2.lp N1.log, radH y2.ap C ca cc N1.adm, rrdsH y2.rp N1.rds, slH rsnT 30 y2.oa N1.out.length y2.oc (flat sndC N1.out), pt d (entC e) entT] _
 refine CS ?_
 refine VC.meetS (σ := Nat) (fun q => [(0, pV p), (2, pV d), (4, pV q)]) (fun q => [nmH p C ca cc m N1, pt q (resC r) resT, pt d (entC e) entT]) (fun _ => True) ?_ ?_
 ·refine xmi ?_
  refine xdr ?_
  refine VA.go (VA.two Z Z Z Z Z (OpT.callP (φ := fun v => v = .tuple #[.agg (resC r).toArray, .bool (atI (logRun n.log).2 N1.done).isSome]) (fun Fr w hF hs hS => by rw [hr, ← eL]; exact rlres_spec Fr w (hS.at_ 1 Z) (by rw [eL]; exact ok.num) (by rw [eL]; omega) N1.done ye ye) Z) Z Z Z (OpT.alloc Z) ?_ ?_ ?_ ?_)
  ·rintro _ _ ⟨rfl, rfl⟩
   exact yr
  ·rintro _ _ ⟨q, rfl, rfl⟩
   exact yr
  ·rintro _ _ ⟨rfl, rfl⟩
   refine VA.go (AO (OpT.alloc Z) Z ?_ ?_)
   ·rintro _ _ ⟨q, rfl, rfl⟩
    exact yr
   rintro _ _ ⟨q, rfl, rfl⟩
   refine xml ?_
   refine xdr ?_
   exact xmm
  ·rintro _ _ ⟨q, rfl, rfl⟩
   refine VA.go (AR (fun Fr w hF hs hS => rlres_spec Fr w (hS.at_ 2 Z) (by rw [eL]; exact ok.num) (by rw [eL]; omega) N1.done ye ye) Z Z yr ?_)
   rw [show (atI (logRun N1.log).2 N1.done).getD resZ = r from by rw [eL, hr]]
   refine xml ?_
   refine xdr ?_
   exact xmm
 rintro q -
 refine xkn ?_
 refine VG (VO.ld 2 Z Z Z Z ?_)
 refine VG (VO.ld 2 Z Z Z Z ?_)
 refine VG (VL 1 (resC r) Z Z Z Z ?_)
 refine VG (VQ 0 (ψ := fun v H => H = nmH p C ca cc m (N1.reply e.client e.seq 0 r)) Z (fun Fr w hF hs _ => nreply_spec Fr w (by rw [eO]; omega) e.client e.seq 0 ye ye r) Z ybh ?_)
 rintro _ _ rfl
 refine xfu ?_
 have hN2 : N1.reply e.client e.seq 0 r = n.fin (k + 1) := by
  rw [fin_succ, NdM.reply, NdM.send, eO, hN1, he, hr, hN1]
  rw [NdM.replyN, show n.done + 1 + (k : Int) = n.done + k + 1 from by omega]
 rw [hN2]
 exact ⟨k + 1, by push_cast; omega, by dsimp only; omega, sbZ, (IP 0 Z Imp.nil).ent⟩
end
end Nd
namespace Nd
open Go Vg T Api Kv Ch Lg Rd Win Adm Sched Conf Rep Ref16 Rk
attribute [local irreducible] VO VC VA
section
variable {p : Nat} {C : ConfM} {ca : Option Addr} {cc : Nat} {m : MemP} {n : NdM} {y : NmS}
def NdM.becomeB (n : NdM) : Bool := decide (0 ≤ n.place) && (!n.whole && (decide (0 ≤ n.bs) && decide (n.bs ≤ n.log.length)))
def NdM.becomes (n : NdM) : NdM := if n.becomeB then NdM.base { n with whole := true, st := n.log.length } else n
theorem nbecomes_spec (ms : n.ch.ms.length ≤ 1000) (hm : RwIn memC 2 Fr w m.1 n.ch.ms) (ho : n.out.length ≤ 9000000) : Tri Tryz.prog 117 [.pointer (some ⟨p, 0, none⟩)] Fr w [nmH p C ca cc m n]
  (fun v L => v = .tuple #[] ∧ L = [nmH p C ca cc m n.becomes]) := by
 have pb := place_bd n
 refine TF 38 Tryz.func117 Z yn tabOk Z Z ?_
 refine xmc ?_
 rintro y -
 show VC _ _ _ [pt p (nmCs C ca cc m n y) ndT, rlogH y.lp n.log, radH y.ap C ca cc n.adm, rrdsH y.rp n.rds, slH rsnT 30 y.oa n.out.length y.oc (flat sndC n.out)] _
 refine CS ?_
 refine VC.meetS (σ := Unit) (fun _ => [(0, pV p), (27, .bool n.becomeB)]) (fun _ => [pt p (nmCs C ca cc m n y) ndT, rlogH y.lp n.log, radH y.ap C ca cc n.adm, rrdsH y.rp n.rds, slH rsnT 30 y.oa n.out.length y.oc (flat sndC n.out)]) (fun _ => True) ?_ ?_
 ·refine CD (.take 0 (.only 1 (ts 2 17 (ts 20 4 (.only 19 (ts 24 2 .nil)))))) yn yq ?_
  refine VA.go (AR (fun Fr w hF hs hS => nplace_spec Fr w (NmIn.pcs hS 0 Z Z Z Z) (RwIn.of hm hF hs) ms) Z Z yr ?_)
  refine xdr ?_
  by_cases h1 : 0 ≤ n.place
  rotate_left
  ·have e : n.becomeB = false := by rw [NdM.becomeB, DF h1]; rfl
   refine VA.go (AY 5 false Z (DF h1) ?_)
   refine VA.go (AY 12 false Z Z ?_)
   refine xhx ?_
   refine zoe ?_
   rw [e]
   exact xgr
  refine VA.go (AY 5 true Z (DT h1) ?_)
  refine xdr ?_
  by_cases hw : n.whole = true
  ·have e : n.becomeB = false := by rw [NdM.becomeB, hw]; simp
   refine VA.go (AY 12 false Z (by rw [hw]; rfl) ?_)
   refine xhx ?_
   refine zoe ?_
   rw [e]
   exact xgr
  ·have hw : n.whole = false := by simpa using hw
   refine VA.go (AY 12 true Z (by rw [hw]; rfl) ?_)
   refine xdr ?_
   by_cases h2 : 0 ≤ n.bs
   rotate_left
   ·have e : n.becomeB = false := by rw [NdM.becomeB, DF h2]; simp
    refine VA.go (AY 19 false Z (DF h2) ?_)
    refine zoe ?_
    rw [e]
    exact xgr
   refine VA.go (AY 19 true Z (DT h2) ?_)
   refine xdr ?_
   refine xmf ?_
   refine xdr ?_
   have e : n.becomeB = decide (n.bs ≤ n.log.length) := by rw [NdM.becomeB, DT h1, hw, DT h2]; rfl
   rw [e]
   exact xgr
 rintro _ -
 refine CC Z (fun h => ?_) (fun h => CK ?_)
 rotate_left
 ·exact Ret.void Z (Imp.nmB Imp.nil).ent ⟨rfl, by rw [NdM.becomes, if_neg (by rw [h]; simp)]⟩
 obtain ⟨n2, hn2⟩ : ∃ n2 : NdM, n2 = { n with whole := true, st := n.log.length } := ⟨_, rfl⟩
 have e : n.becomes = n2.base := by rw [NdM.becomes, if_pos h, hn2]
 refine zpw ?_
 refine xme ?_
 refine VG (VO.st 0 (cs' := nmCs C ca cc m { n with whole := true } y) Z Z Z Z yca Z Z ?_)
 refine VG (VO.st 0 (cs' := nmCs C ca cc m n2 y) Z Z Z Z (by show 18 < 29; omega) (by rw [hn2]; rfl) Z ?_)
 refine xfu ?_
 show VC _ _ _ _ _
 refine CN (L' := [nmH p C ca cc m n2]) (by rw [hn2]; exact Imp.ent (Imp.nmB (n := { n with whole := true, st := n.log.length }) Imp.nil)) ?_
 refine CG ?_
 refine VG (VQ 0 (ψ := fun v H => H = nmH p C ca cc m n2.base) Z (fun Fr w hF hs _ => nbase_spec Fr w (by rw [hn2]; exact ms) (by rw [hn2]; exact RwIn.of hm hF hs) yci) Z ybh ?_)
 rintro _ _ rfl
 refine xfu ?_
 rw [e]
 exact xdy
def NdM.read (n : NdM) (f : FrameM) (now : Int) : NdM :=
 if n.wrong f n.tail ≠ 0 then n.refuse f (n.wrong f n.tail)
 else if f.deadline < now then n.refuse f 2
 else if (n.rds.l.length : Int) < n.rds.cap then NdM.send { n with rds := n.rds.put f (kvLook (logRun n.log).1 f.op.key n.log.length) } 16 (confirmF n.ch.epoch (n.rds.last + 1))
 else n.refuse f 1
theorem nread_spec (ok : NdOk C n) (hm : RwIn memC 2 Fr w m.1 n.ch.ms) (ho : n.out.length ≤ 9000000) (f : FM) (now : Int) (hc0 : -1000000 ≤ f.1.client) (hc1 : f.1.client ≤ 1000000) : Tri Tryz.prog 113 [.pointer (some ⟨p, 0, none⟩), .agg (fmc f).toArray, .int .i64 now] Fr w [nmH p C ca cc m n]
  (fun v L => v = .tuple #[] ∧ L = [nmH p C ca cc m (n.read f.1 now)]) := by
 refine TF 56 Tryz.func113 Z yn tabOk Z Z ?_
 refine CS (CG (VG (VB (vs := fmc f) Z fun fb => VG (VN ?_))))
 refine xly ?_
 rintro y -
 show VC _ _ _ [pt p (nmCs C ca cc m n y) ndT, rlogH y.lp n.log, radH y.ap C ca cc n.adm, rrdsH y.rp n.rds, slH rsnT 30 y.oa n.out.length y.oc (flat sndC n.out), pt fb (fmc f) frT] _
 refine CS (CD (ts 0 3 (.only 3 (.only 4 (.take 5 .nil)))) yn yq ?_)
 refine xmn ?_
 refine VA.go (AR (fun Fr w hF hs hS => ntail_spec Fr w (NmIn.pcs hS 0 Z Z Z Z) (RwIn.of hm hF hs) ok.ms) Z Z yr ?_)
 refine VA.go (AR (fun Fr w hF hs hS => nwrong_spec Fr w (NmIn.pcs hS 0 Z Z Z Z) f n.tail) Z Z yr ?_)
 refine xem ?_
 obtain ⟨r0, hr0⟩ : ∃ r0, r0 = n.wrong f.1 n.tail := ⟨_, rfl⟩
 rw [← hr0]
 refine CS ?_
 refine VC.meetS (σ := Int) (fun r => [(0, pV p), (4, pV fb), (6, .int .i64 r)]) (fun r => [nmH p C ca cc m n, pt fb (fmc f) frT]) (fun r => n.read f.1 now = n.refuse f.1 r) ?_ ?_
 rotate_left
 ·rintro r hr
  refine xdj ?_
  refine VG (VL 1 (fmc f) Z Z Z Z ?_)
  refine VG (VQ 0 (ψ := fun v H => H = nmH p C ca cc m (n.refuse f.1 r)) Z (fun Fr w hF hs _ => nrefuse_spec Fr w ye f r hc0 hc1) Z ybh ?_)
  rintro _ _ rfl
  refine xfu ?_
  rw [← hr]
  exact xmb
 by_cases h1 : r0 = 0
 rotate_left
 ·have e : n.read f.1 now = n.refuse f.1 r0 := by rw [NdM.read, ← hr0, if_pos h1]
  refine xgw ?_
  refine xey ?_
  refine VG (VY 16 false Z ycj ?_)
  refine xey ?_
  refine xdk ?_
  refine xey ?_
  refine CE (i := r0) (j := 0) Z (fun h => absurd h h1) (fun h => CK ?_)
  exact ⟨r0, e, sbZ, (Imp.nmB Imp.refl).ent⟩
 subst h1
 have hno : ¬ n.wrong f.1 n.tail ≠ 0 := fun h => h hr0.symm
 refine xgw ?_
 refine xey ?_
 refine VG (VY 16 true Z Z ?_)
 refine xey ?_
 refine CP (p := f.1.deadline < now) Z (fun h2 => ?_) (fun h2 => ?_)
 ·refine xdj ?_
  exact ⟨2, by rw [NdM.read, if_neg hno, if_pos h2], sbZ, (Imp.nmB Imp.refl).ent⟩
 refine xey ?_
 refine CE (i := 0) (j := 0) Z (fun _ => ?_) (fun h => absurd Z h)
 have hrn := ok.rn1; have hr0 := ok.rn0; have hrl := ok.rl; have hlg := ok.log
 obtain ⟨x, hx⟩ : ∃ x, x = kvLook (logRun n.log).1 f.1.op.key n.log.length := ⟨_, rfl⟩
 refine CS (CD (ts 0 12 (.only 12 (.only 13 (ts 14 5 .nil)))) yn yq ?_)
 refine xfb ?_
 refine xmn ?_
 refine xfb ?_
 refine VA.go (AR (fun Fr w hF hs hS => rllook_spec Fr w (hS.at_ 1 Z) ok.num ye f.1.op.key) Z Z yr ?_)
 rw [← hx]
 by_cases h3 : (n.rds.l.length : Int) < n.rds.cap
 ·refine VA.go (AQ 3 (ψ := fun v H => v = .tuple #[.int .i64 (n.rds.last + 1), .int .i64 0] ∧ H = rrdsH y.rp (n.rds.put f.1 x)) Z (fun Fr w hF hs _ => rrput_spec Fr w ye hr0 ye f.1 f.2 x) Z Z (fun v L h => by rw [if_pos h3] at h; exact ⟨_, h.2, h.1, Z⟩) (fun v H h => by rw [h.2]; exact yr) ?_)
  rintro _ _ ⟨rfl, rfl⟩
  refine xem ?_
  obtain ⟨n2, hn2⟩ : ∃ n2 : NdM, n2 = { n with rds := n.rds.put f.1 x } := ⟨_, rfl⟩
  have e : n.read f.1 now = n2.send 16 (confirmF n.ch.epoch (n.rds.last + 1)) := by rw [NdM.read, if_neg hno, if_neg h2, if_pos h3, hn2, hx]
  refine xdj ?_
  refine CE (i := 0) (j := 0) Z (fun _ => ?_) (fun h => absurd Z h)
  refine xdj ?_
  refine VG (VI (LB (pv := [(0, .int .i64 9), (1, .int .i64 n.ch.epoch), (12, .int .i64 (n.rds.last + 1))]) (fgC (confirmF n.ch.epoch (n.rds.last + 1)) mem0) Z Z Z yn Z) ?_)
  refine VO.ent (L' := [nmH p C ca cc m n2]) (by rw [hn2]; exact Imp.ent (Imp.nmB (n := { n with rds := n.rds.put f.1 x }) (y := y) Imp.nil)) ?_
  refine VG (VQ 0 (ψ := fun v H => H = nmH p C ca cc m (n2.send 16 (confirmF n.ch.epoch (n.rds.last + 1)))) Z (fun Fr w hF hs _ => nsend_spec Fr w yci _ _) Z ybh ?_)
  rintro _ _ rfl
  refine xfu ?_
  rw [← e]
  exact CR (Ret.void Z ER ⟨rfl, Z⟩)
 ·refine VA.go (AQ 3 (ψ := fun v H => v = .tuple #[.int .i64 0, .int .i64 60] ∧ H = rrdsH y.rp n.rds) Z (fun Fr w hF hs _ => rrput_spec Fr w ye hr0 ye f.1 f.2 x) Z Z (fun v L h => by rw [if_neg h3, RdsM.put, if_neg h3] at h; exact ⟨_, h.2, h.1, Z⟩) (fun v H h => by rw [h.2]; exact yr) ?_)
  rintro _ _ ⟨rfl, rfl⟩
  refine xem ?_
  refine xdj ?_
  refine CE (i := 60) (j := 0) Z (fun h => absurd h yy) (fun _ => CK ?_)
  refine xdj ?_
  exact ⟨1, by rw [NdM.read, if_neg hno, if_neg h2, if_neg h3], sbZ, (Imp.nmB Imp.refl).ent⟩
end
end Nd
namespace Nd
open Go Vg T Api Kv Ch Lg Rd Win Adm Sched Conf Rep Ref16 Rk
attribute [local irreducible] VO VC VA
section
variable {p : Nat} {C : ConfM} {ca : Option Addr} {cc : Nat} {m : MemP} {n : NdM} {y : NmS}
theorem raOffer_same (A : AdmM) (f : FrameM) (now : Int) : (raOffer A f now).2.clients = A.clients ∧ (raOffer A f now).2.marks.length = A.marks.length := by
 obtain ⟨h1, h2⟩ := raW_same A f now
 unfold raOffer
 split
 ·split
  ·obtain ⟨k1, k2, _⟩ := barM_same (raW A f now).2 f.client f.seq f.try_
   exact ⟨k1.trans h1, k2.trans (by rw [h2])⟩
  ·exact ⟨h1, by rw [h2]⟩
 ·exact ⟨rfl, Z⟩
def NdM.judge (n : NdM) (f : FrameM) (now : Int) : Option ResM × Int × AdmM :=
 if n.adm.may f = false then (none, 10, n.adm)
 else if n.adm.barred f.client f.seq f.try_ = true then (none, 7, n.adm)
 else if n.wrong f (n.place == 0) = 0 ∧ n.drains = true then (none, 3, n.adm)
 else if n.wrong f (n.place == 0) = 0 ∧ 0 < (lastOf n.log f.client).1 ∧ f.seq = (lastOf n.log f.client).1 then
  (if (lastOf n.log f.client).2 ≤ n.done then (some ((atI (logRun n.log).2 (lastOf n.log f.client).2).getD resZ), 0, n.adm) else (none, 6, n.adm))
 else if n.wrong f (n.place == 0) = 0 ∧ f.seq < (lastOf n.log f.client).1 then (none, 7, n.adm)
 else if n.wrong f (n.place == 0) = 0 ∧ 4096 ≤ n.log.length then (none, 1, n.adm)
 else if n.wrong f (n.place == 0) = 0 then (none, raOffer n.adm f now)
 else (none, n.wrong f (n.place == 0), n.adm)
def NdM.told (n : NdM) (f : FrameM) (r : Int) (A : AdmM) : NdM :=
 if r = 0 then { n with adm := A }
 else if r ≠ 6 ∧ r ≠ 10 then NdM.refuse { n with adm := (A.barM f.client f.seq f.try_).2 } f r
 else NdM.refuse { n with adm := A } f r
def NdM.update (n : NdM) (f : FrameM) (now : Int) : NdM := match (n.judge f now).1 with
 | some r => n.reply f.client f.seq f.try_ r
 | none => n.told f (n.judge f now).2.1 (n.judge f now).2.2
theorem last_idx {es : List EntryM} (hnum : Num es) (c : Int) : 0 ≤ (lastOf es c).2 ∧ (lastOf es c).2 ≤ es.length := by
 have key : ∀ k, k ≤ es.length → 0 ≤ (lastOf (es.take k) c).2 ∧ (lastOf (es.take k) c).2 ≤ k := by
  intro k
  induction k with
  | zero => intro _; exact ⟨by show (0 : Int) ≤ 0; omega, by show (0 : Int) ≤ _; omega⟩
  | succ k ih =>
   intro hk
   obtain ⟨e, he⟩ : ∃ e, es[k]? = some e := ⟨_, GE ye⟩
   have h1 := hnum k e he
   have h2 := ih ye
   rw [List.take_add_one, he]
   show 0 ≤ (lastOf (es.take k ++ [e]) c).2 ∧ (lastOf (es.take k ++ [e]) c).2 ≤ _
   rw [lastOf_snoc]
   split
   ·show 0 ≤ e.index ∧ e.index ≤ _; omega
   ·omega
 have := key es.length (NR _)
 rwa [List.take_length] at this
theorem nupdate_spec (ok : NdOk C n) (hm : RwIn memC 2 Fr w m.1 n.ch.ms) (ho : n.out.length ≤ 9000000) (f : FM) (now : Int) (hc0 : -1000000 ≤ f.1.client) (hc1 : f.1.client ≤ 1000000) : Tri Tryz.prog 114 [.pointer (some ⟨p, 0, none⟩), .agg (fmc f).toArray, .int .i64 now] Fr w [nmH p C ca cc m n]
  (fun v L => v = .tuple #[] ∧ L = [nmH p C ca cc m (n.update f.1 now)]) := by
 have hlg := ok.log
 obtain ⟨li0, li1⟩ := last_idx ok.num f.1.client
 refine TF 134 Tryz.func114 Z yn tabOk Z Z ?_
 refine CS (CG (VG (VB (vs := fmc f) Z fun fb => VG (VN ?_))))
 refine xly ?_
 rintro y -
 show VC _ _ _ [pt p (nmCs C ca cc m n y) ndT, rlogH y.lp n.log, radH y.ap C ca cc n.adm, rrdsH y.rp n.rds, slH rsnT 30 y.oa n.out.length y.oc (flat sndC n.out), pt fb (fmc f) frT] _
 refine CS (CD (ts 0 3 (.only 3 (.take 4 (.only 5 (.take 6 .nil))))) yn yq ?_)
 refine xmn ?_
 refine VA.go (AR (fun Fr w hF hs hS => nplace_spec Fr w (NmIn.pcs hS 0 Z Z Z Z) (RwIn.of hm hF hs) ok.ms) Z Z yr ?_)
 refine VA.go (AR (fun Fr w hF hs hS => nwrong_spec Fr w (NmIn.pcs hS 0 Z Z Z Z) f (n.place == 0)) Z Z yr ?_)
 refine xem ?_
 obtain ⟨r0, hr0⟩ : ∃ r0, r0 = n.wrong f.1 (n.place == 0) := ⟨_, rfl⟩
 rw [← hr0]
 obtain ⟨l, hl⟩ : ∃ l, l = lastOf n.log f.1.client := ⟨_, rfl⟩
 rw [← hl] at li0 li1
 refine CS (CD (ts 0 6 (.only 6 (ts 7 5 .nil))) yn yq ?_)
 refine xfb ?_
 refine VA.go (AR (fun Fr w hF hs hS => rllast_spec Fr w (hS.at_ 1 Z) ok.num ye f.1.client) Z Z yr ?_)
 rw [← hl]
 refine xem ?_
 refine CS ?_
 refine VC.meetS (σ := Int × AdmM) (fun s => [(0, pV p), (4, pV fb), (6, .int .i64 s.1)]) (fun s => [nmH p C ca cc m { n with adm := s.2 }, pt fb (fmc f) frT]) (fun s => n.update f.1 now = n.told f.1 s.1 s.2 ∧ s.2.clients = n.adm.clients ∧ s.2.marks.length = n.adm.marks.length) ?_ ?_
 ·have fin : ∀ {r : Int} {j : Option ResM × Int × AdmM}, n.judge f.1 now = (none, r, n.adm) → n.update f.1 now = n.told f.1 r n.adm := fun {r j} h => by rw [NdM.update, h]
  have jd : n.judge f.1 now = if n.adm.may f.1 = false then (none, 10, n.adm)
    else if n.adm.barred f.1.client f.1.seq f.1.try_ = true then (none, 7, n.adm)
    else if r0 = 0 ∧ n.drains = true then (none, 3, n.adm)
    else if r0 = 0 ∧ 0 < l.1 ∧ f.1.seq = l.1 then (if l.2 ≤ n.done then (some ((atI (logRun n.log).2 l.2).getD resZ), 0, n.adm) else (none, 6, n.adm))
    else if r0 = 0 ∧ f.1.seq < l.1 then (none, 7, n.adm)
    else if r0 = 0 ∧ 4096 ≤ n.log.length then (none, 1, n.adm)
    else if r0 = 0 then (none, raOffer n.adm f.1 now)
    else (none, r0, n.adm) := by rw [hr0, hl]; rfl
  have done_ : ∀ {X : Cx} {E : Env} {r : Int}, Vg.look E 0 = some (.pointer (some ⟨p, 0, none⟩)) → Vg.look E 4 = some (.pointer (some ⟨fb, 0, none⟩)) → Vg.look E 6 = some (.int .i64 r) → n.judge f.1 now = (none, r, n.adm) →
    ∃ s : Int × AdmM, (n.update f.1 now = n.told f.1 s.1 s.2 ∧ s.2.clients = n.adm.clients ∧ s.2.marks.length = n.adm.marks.length) ∧ Sub [(0, pV p), (4, pV fb), (6, .int .i64 s.1)] E ∧ Ent X [pt p (nmCs C ca cc m n y) ndT, rlogH y.lp n.log, radH y.ap C ca cc n.adm, rrdsH y.rp n.rds, slH rsnT 30 y.oa n.out.length y.oc (flat sndC n.out), pt fb (fmc f) frT] [nmH p C ca cc m { n with adm := s.2 }, pt fb (fmc f) frT] := fun {X E r} h0 h1 h2 h3 =>
   ⟨(r, n.adm), ⟨by rw [NdM.update, h3], rfl, rfl⟩, SC h0 (SC h1 (SC h2 (SN _))), Imp.ent (Imp.nmB (n := n) Imp.refl)⟩
  refine CS (CD (ts 0 5 (.only 5 (.take 6 .nil))) yn yq ?_)
  refine xfb ?_
  refine xmn ?_
  refine VA.go (AR (fun Fr w hF hs hS => by
   obtain ⟨sp, h⟩ := RadIn.of (hS.at_ 2 rfl)
   exact rmay_spec Fr w ok.ra h f) Z Z yr ?_)
  refine xem ?_
  refine CC Z (fun h1 => ?_) (fun h1 => ?_)
  ·have h1 : n.adm.may f.1 = false := by simpa using h1
   refine xex ?_
   exact done_ Z Z Z (by rw [jd, if_pos h1])
  have h1 : ¬ n.adm.may f.1 = false := by simpa using h1
  refine xek ?_
  refine xfb ?_
  refine VA.go (AR (fun Fr w hF hs hS => by
   obtain ⟨sp, h⟩ := RadIn.of (hS.at_ 2 rfl)
   exact rbarred_spec Fr w ok.ra.cl ok.ra.marks ok.ra.c6 h.blk f.1.client f.1.seq f.1.try_) Z Z yr ?_)
  refine xem ?_
  refine CC Z (fun h2 => ?_) (fun h2 => ?_)
  ·refine xex ?_
   exact done_ Z Z Z (by rw [jd, if_neg h1, if_pos h2])
  have h2 : ¬ n.adm.barred f.1.client f.1.seq f.1.try_ = true := by rw [h2]; simp
  refine xgw ?_
  by_cases h0 : r0 = 0
  rotate_left
  ·refine xey ?_
   refine VG (VY 47 false Z yck ?_)
   refine xey ?_
   refine xdk ?_
   refine xey ?_
   refine VG (VY 53 false Z yck ?_)
   refine xey ?_
   refine VG (VY 57 false Z Z ?_)
   refine xey ?_
   refine xdk ?_
   refine xey ?_
   refine VG (VY 89 false Z yck ?_)
   refine xey ?_
   refine xdk ?_
   refine xey ?_
   refine VG (VY 97 false Z yck ?_)
   refine xey ?_
   refine xdk ?_
   refine xey ?_
   refine CE (i := r0) (j := 0) Z (fun h => absurd h h0) (fun _ => CK ?_)
   exact done_ Z Z Z (by rw [jd, if_neg h1, if_neg h2, if_neg (fun h => h0 h.1), if_neg (fun h => h0 h.1), if_neg (fun h => h0 h.1), if_neg (fun h => h0 h.1), if_neg h0])
  subst h0
  refine VG (VY 47 true Z Z ?_)
  refine xmd ?_
  refine xey ?_
  refine CC Z (fun h3 => ?_) (fun h3 => ?_)
  ·refine xex ?_
   exact done_ Z Z Z (by rw [jd, if_neg h1, if_neg h2, if_pos ⟨rfl, h3⟩])
  have h3 : ¬ ((0 : Int) = 0 ∧ n.drains = true) := fun h => by rw [h3] at h; cases h.2
  refine CS ?_
  refine VC.meetS (σ := Bool) (fun d => [(0, pV p), (2, .int .i64 now), (4, pV fb), (6, .int .i64 0), (7, .int .i64 l.1), (8, .int .i64 l.2), (62, .bool d)]) (fun _ => [pt p (nmCs C ca cc m n y) ndT, rlogH y.lp n.log, radH y.ap C ca cc n.adm, rrdsH y.rp n.rds, slH rsnT 30 y.oa n.out.length y.oc (flat sndC n.out), pt fb (fmc f) frT]) (fun d => d = true ↔ (0 < l.1 ∧ f.1.seq = l.1)) ?_ ?_
  ·refine CG ?_
   refine xey ?_
   refine VG (VY 53 true Z Z ?_)
   refine xey ?_
   by_cases h4 : 0 < l.1
   ·refine VG (VY 57 true Z (DT h4) ?_)
    refine xey ?_
    exact ⟨_, by simp [h4], SC Z (SC Z (SC Z (SC Z (SC Z (SC Z (SC Z (SN _))))))), ER⟩
   ·refine VG (VY 57 false Z (DF h4) ?_)
    refine xey ?_
    exact ⟨false, by simp [h4], sbZ, ER⟩
  rintro d hd
  refine CC Z (fun h4 => ?_) (fun h4 => ?_)
  ·have h4 := hd.1 h4
   refine xex ?_
   refine CP (p := l.2 ≤ n.done) Z (fun h5 => ?_) (fun h5 => CK ?_)
   rotate_left
   ·refine xex ?_
    exact done_ Z Z Z (by rw [jd, if_neg h1, if_neg h2, if_neg h3, if_pos ⟨rfl, h4⟩, if_neg h5])
   obtain ⟨x, hx⟩ : ∃ x, x = (atI (logRun n.log).2 l.2).getD resZ := ⟨_, rfl⟩
   have e : n.update f.1 now = n.reply f.1.client f.1.seq f.1.try_ x := by rw [NdM.update, jd, if_neg h1, if_neg h2, if_neg h3, if_pos ⟨rfl, h4⟩, if_pos h5, hx]
   refine xex ?_
   refine VG (VV (fun Fr w hF hs hS => rlres_spec Fr w (hS.at_ 1 Z) ok.num ye l.2 ye ye) Z ?_)
   rw [← hx]
   refine VG (VO.alloc Z fun b9 => VG (VT (vs := resC x) (cs' := resC x) 0 Z Z Z Z (NR _) Z Z Z (VG (VN ?_))))
   refine xgw ?_
   refine VG (VO.ld 6 Z Z Z Z ?_)
   refine VG (VO.ld 6 Z Z Z Z ?_)
   refine VG (VO.ld 6 Z Z Z Z ?_)
   refine VG (VL 0 (resC x) Z Z Z Z ?_)
   refine VO.ent (L' := [nmH p C ca cc m n]) (Imp.ent (Imp.trans Imp.tl (Imp.nmB (n := n) Imp.nil))) ?_
   refine VG (VQ 0 (ψ := fun v H => H = nmH p C ca cc m (n.reply f.1.client f.1.seq f.1.try_ x)) Z (fun Fr w hF hs _ => nreply_spec Fr w ye _ _ _ hc0 hc1 x) Z ybh ?_)
   rintro _ _ rfl
   refine xfu ?_
   rw [← e]
   exact CR (Ret.void Z ER ⟨rfl, Z⟩)
  have h4 : ¬ ((0 : Int) = 0 ∧ 0 < l.1 ∧ f.1.seq = l.1) := fun h => by rw [hd.2 h.2] at h4; cases h4
  refine xey ?_
  refine VG (VY 89 true Z Z ?_)
  refine xey ?_
  refine CP (p := f.1.seq < l.1) Z (fun h5 => ?_) (fun h5 => ?_)
  ·refine xex ?_
   exact done_ Z Z Z (by rw [jd, if_neg h1, if_neg h2, if_neg h3, if_neg h4, if_pos ⟨rfl, h5⟩])
  have h5 : ¬ ((0 : Int) = 0 ∧ f.1.seq < l.1) := fun h => h5 h.2
  refine xey ?_
  refine VG (VY 97 true Z Z ?_)
  refine xme ?_
  refine xey ?_
  refine CP (p := (4096 : Int) ≤ (n.log.length : Int)) Z (fun h6 => ?_) (fun h6 => ?_)
  ·refine xex ?_
   exact done_ Z Z Z (by rw [jd, if_neg h1, if_neg h2, if_neg h3, if_neg h4, if_neg h5, if_pos ⟨rfl, by omega⟩])
  have h6 : ¬ ((0 : Int) = 0 ∧ 4096 ≤ n.log.length) := fun h => h6 ye
  refine xey ?_
  refine CE (i := 0) (j := 0) Z (fun _ => ?_) (fun h => absurd Z h)
  refine CD (ts 0 6 (.only 6 (.take 7 .nil))) yn yq ?_
  refine xfb ?_
  refine xmn ?_
  refine VA.go (AQ 2 (ψ := fun v H => v = .int .i64 (raOffer n.adm f.1 now).1 ∧ H = radH y.ap C ca cc (raOffer n.adm f.1 now).2) Z (fun Fr w hF hs _ => roffer_spec Fr w ok.ra f now) Z Z yz (fun v H h => by rw [h.2]; exact yr) ?_)
  rintro _ _ ⟨rfl, rfl⟩
  refine xem ?_
  obtain ⟨k1, k2⟩ := raOffer_same n.adm f.1 now
  refine ⟨raOffer n.adm f.1 now, ⟨by rw [NdM.update, jd, if_neg h1, if_neg h2, if_neg h3, if_neg h4, if_neg h5, if_neg h6, if_pos rfl], k1, k2⟩, sbZ, Imp.ent (Imp.nmB (n := { n with adm := (raOffer n.adm f.1 now).2 }) (y := y) Imp.refl)⟩
 rintro ⟨r, A⟩ ⟨hu, hA1, hA2⟩
 dsimp only at hu hA1 hA2 ⊢
 rw [hu]
 refine xdj ?_
 refine CE (i := r) (j := 0) Z (fun h1 => ?_) (fun h1 => CK ?_)
 ·exact CR (Ret.void Z (IP 0 Z Imp.nil).ent ⟨rfl, by rw [NdM.told, if_pos h1]⟩)
 refine VC.opn 0 Z (HOpn.nm p C ca cc m { n with adm := A }) ?_
 rintro y2 -
 show VC _ _ _ [pt p (nmCs C ca cc m { n with adm := A } y2) ndT, rlogH y2.lp n.log, radH y2.ap C ca cc A, rrdsH y2.rp n.rds, slH rsnT 30 y2.oa n.out.length y2.oc (flat sndC n.out), pt fb (fmc f) frT] _
 refine CS ?_
 refine VC.meetS (σ := AdmM) (fun _ => [(0, pV p), (4, pV fb), (6, .int .i64 r)]) (fun B => [nmH p C ca cc m { n with adm := B }, pt fb (fmc f) frT]) (fun B => n.told f.1 r A = NdM.refuse { n with adm := B } f.1 r) ?_ ?_
 rotate_left
 ·rintro B hB
  refine xkn ?_
  refine VG (VL 1 (fmc f) Z Z Z Z ?_)
  refine VG (VQ 0 (ψ := fun v H => H = nmH p C ca cc m (NdM.refuse { n with adm := B } f.1 r)) Z (fun Fr w hF hs _ => nrefuse_spec Fr w (by show n.out.length ≤ _; omega) f r hc0 hc1) Z ybh ?_)
  rintro _ _ rfl
  refine xfu ?_
  rw [hB]
  exact xmb
 refine xgw ?_
 refine xey ?_
 by_cases h2 : r = 6
 ·refine VG (VY 115 false Z ycd ?_)
  refine xey ?_
  refine xdn ?_
  exact ⟨A, by rw [NdM.told, if_neg h1, if_neg (fun h => h.1 h2)], sbZ, Imp.ent (Imp.nmB (n := { n with adm := A }) (y := y2) Imp.refl)⟩
 refine VG (VY 115 true Z yce ?_)
 refine xey ?_
 refine VC.condNE (i := r) (j := 10) Z (fun h3 => ?_) (fun h3 => CK ?_)
 rotate_left
 ·exact ⟨A, by rw [NdM.told, if_neg h1, if_neg (fun h => h.2 h3)], sbZ, Imp.ent (Imp.nmB (n := { n with adm := A }) (y := y2) Imp.refl)⟩
 refine VC.opn 2 Z (HOpn.rad y2.ap C ca cc A) ?_
 rintro sp -
 show VC _ _ _ [pt y2.ap (radCs C ca cc A sp) radT, rfH sp ca A.sch, pt p (nmCs C ca cc m { n with adm := A } y2) ndT, rlogH y2.lp n.log, rrdsH y2.rp n.rds, slH rsnT 30 y2.oa n.out.length y2.oc (flat sndC n.out), pt fb (fmc f) frT] _
 obtain ⟨B, hB⟩ : ∃ B, B = (A.barM f.1.client f.1.seq f.1.try_).2 := ⟨_, rfl⟩
 refine xjc ?_
 refine xjh ?_
 refine VA.go (AQ 0 (ψ := fun v H => H = pt y2.ap (radCs C ca cc B sp) radT) Z (fun Fr w hF hs _ => rbar_spec Fr w (ok.ra.cl.trans hA1.symm) (by rw [hA2]; exact ok.ra.marks) (by rw [hA1]; exact ok.ra.c6) f.1.client f.1.seq f.1.try_) Z Z (fun v L h => ⟨_, h.2, by rw [hB]⟩) (fun v H h => by rw [h]; exact yr) ?_)
 rintro _ _ rfl
 refine xem ?_
 refine ⟨B, by rw [NdM.told, if_neg h1, if_pos ⟨h2, h3⟩, hB], sbZ, Imp.ent (Imp.nm (n := { n with adm := B }) y2 (IP 2 Z (IP 2 Z (Imp.rad (A := B) sp (IP 0 Z (IP 0 ?_ (pkZ [0, 0, 0])))))))⟩
 rw [hB, (barM_same _ _ _ _).2.2]; rfl
end
end Nd
namespace Nd
open Go Vg T Api Kv Ch Lg Rd Win Adm Sched Conf Rep Ref16 Rk
attribute [local irreducible] VO VC VA
section
variable {p : Nat} {C : ConfM} {ca : Option Addr} {cc : Nat} {m : MemP} {n : NdM} {y : NmS}
theorem NdOk.send (k : NdOk C n) (to : Int) (f : FrameM) : NdOk C (n.send to f) := ⟨k.ms, k.log, k.num, k.logc, k.ra, k.calls, k.d0, k.d1, k.s0, k.s1, k.w0, k.w1, k.rl, k.rc, k.rn0, k.rn1, k.rcl⟩
theorem NdOk.fin (k : NdOk C n) {j : Nat} (h : n.done + j ≤ n.log.length) : NdOk C (n.fin j) := ⟨k.ms, k.log, k.num, k.logc, k.ra, k.calls, by have := k.d0; show 0 ≤ n.done + j; omega, h, k.s0, k.s1, k.w0, k.w1, k.rl, k.rc, k.rn0, k.rn1, k.rcl⟩
theorem NdOk.finish (k : NdOk C n) : NdOk C n.finish := by
 unfold NdM.finish
 split
 ·exact k.fin (by have := k.d1; omega)
 ·exact k
theorem NdOk.base (k : NdOk C n) : NdOk C n.base := by
 unfold NdM.base; split
 ·exact k.send _ _
 ·exact k
theorem NdOk.whole (k : NdOk C n) (b : Bool) (s : Int) : NdOk C { n with whole := b, st := s } := ⟨k.ms, k.log, k.num, k.logc, k.ra, k.calls, k.d0, k.d1, k.s0, k.s1, k.w0, k.w1, k.rl, k.rc, k.rn0, k.rn1, k.rcl⟩
theorem NdOk.becomes (k : NdOk C n) : NdOk C n.becomes := by
 unfold NdM.becomes; split
 ·exact (k.whole true _).base
 ·exact k
theorem RaOk.exp {A : AdmM} (k : RaOk C A) (now : Int) : RaOk C (raExp A now) := by
 obtain ⟨h1, h2, h3⟩ := barAll_same (A.sch.goneM now) (A.withSch (A.sch.expM now))
 refine ⟨k.cl.trans h1.symm, h2.trans k.marks, by rw [raExp, h1]; exact k.c6, ?_⟩
 rw [raExp, h3, ← k.qs]
 show (A.sch.cls.map (ClsM.expC now)).map ClsM.quantum = _
 rw [List.map_map]; rfl
theorem exp_calls2 {A : AdmM} (hC : A.Calls) (now : Int) : (raExp A now).Calls := by
 obtain ⟨h1, h2, h3⟩ := barAll_same (A.sch.goneM now) (A.withSch (A.sch.expM now))
 intro q hq f hf
 rw [raExp, h3] at hq
 have hq : q ∈ (A.sch.expM now).qs := hq
 rw [exp_qs] at hq
 obtain ⟨q0, hq0, rfl⟩ := List.mem_map.1 hq
 rw [raExp, h1]
 exact hC q0 hq0 f (List.mem_filter.1 hf).1
theorem gone_client {A : AdmM} (h6 : A.clients ≤ 6) (hC : A.Calls) {now : Int} {f : FrameM} (hf : f ∈ A.sch.goneM now) : 0 ≤ f.client ∧ f.client < 6 := by
 obtain ⟨c, hc, hf⟩ := List.mem_flatMap.1 hf
 have := (hC c.q (List.mem_map.2 ⟨c, hc, rfl⟩) f (List.mem_filter.1 hf).1).1
 omega
def bigT : Int := 1099511627777
def NdM.refs (n : NdM) (gs : List FrameM) (r : Int) : NdM := { n with out := n.out ++ gs.map fun f => (32 + f.client, refuseF n.ch.epoch f r) }
theorem refs_nil (n : NdM) (r : Int) : n.refs [] r = n := by unfold NdM.refs; simp
theorem refs_snoc (n : NdM) (gs : List FrameM) (f : FrameM) (r : Int) : n.refs (gs ++ [f]) r = (n.refs gs r).refuse f r := by
 unfold NdM.refs NdM.refuse NdM.send
 simp
theorem NdOk.refs (k : NdOk C n) (gs : List FrameM) (r : Int) : NdOk C (n.refs gs r) := ⟨k.ms, k.log, k.num, k.logc, k.ra, k.calls, k.d0, k.d1, k.s0, k.s1, k.w0, k.w1, k.rl, k.rc, k.rn0, k.rn1, k.rcl⟩
def NdM.ent1 (n : NdM) : NdM := { n with adm := raExp n.adm bigT, rds := { n.rds with l := [] } }
def NdM.ent2 (n : NdM) (c : ChM) : NdM := if (sinceOf c n.id).2 = false then { n with whole := false } else if (sinceOf c n.id).1 ≠ n.since then { n with log := [], done := 0, whole := false } else n
def NdM.ent3 (n : NdM) (c : ChM) : NdM := { n with ch := c, since := (sinceOf c n.id).1, linked := false, have_ := 0, bs := -1, st := n.log.length, sent := n.log.length, limit := 0 }
def NdM.ent4 (n : NdM) (c : ChM) : NdM := (((n.ent1.ent2 c).ent3 c).refs (n.adm.sch.goneM bigT) 9).refs (n.rds.l.map RdM.f) 9
def NdM.enter (C : ConfM) (n : NdM) (c : ChM) : NdM := (((n.ent4 c).finish).greet C).base.alive
theorem NdOk.ent1 (k : NdOk C n) : NdOk C n.ent1 := ⟨k.ms, k.log, k.num, k.logc, k.ra.exp _, exp_calls2 k.calls _, k.d0, k.d1, k.s0, k.s1, k.w0, k.w1, by show 0 ≤ 16; omega, k.rc, k.rn0, k.rn1, fun x hx => by cases hx⟩
theorem NdOk.ent3 (k : NdOk C n) {c : ChM} (hc : c.ms.length ≤ 1000) : NdOk C ((n.ent2 c).ent3 c) := by
 unfold NdM.ent2
 split
 ·exact xmo
 split
 ·exact ⟨hc, by show 0 ≤ 4096; omega, (by intro i e h; simp [NdM.ent3] at h), (by intro e h; cases h), k.ra, k.calls, Int.le_refl _, Int.le_refl _, Int.le_refl _, Int.le_refl _, k.w0, k.w1, k.rl, k.rc, k.rn0, k.rn1, k.rcl⟩
 ·exact xmo
def backV (h l : Int) : Int := if 0 < if l < h then l else h then if l < h then l else h else 0
theorem backV_eq (h l : Int) : backV h l = max 0 (min h l) := by unfold backV; split <;> split <;> omega
def NdM.back (n : NdM) : NdM := { n with sent := backV n.have_ n.log.length }
theorem nback_spec : Tri Tryz.prog 107 [.pointer (some ⟨p, 0, none⟩)] Fr w [nmH p C ca cc m n]
  (fun v L => v = .tuple #[] ∧ L = [nmH p C ca cc m n.back]) := by
 refine TF 13 Tryz.func107 Z yn tabOk Z Z ?_
 refine xmc ?_
 rintro y -
 show VC _ _ _ [pt p (nmCs C ca cc m n y) ndT, rlogH y.lp n.log, radH y.ap C ca cc n.adm, rrdsH y.rp n.rds, slH rsnT 30 y.oa n.out.length y.oc (flat sndC n.out)] _
 refine CD (ts 0 6 (.only 6 (ts 7 4 (.only 11 .nil)))) yn yq ?_
 refine xdr ?_
 refine xmf ?_
 refine xdr ?_
 refine VA.go (VA.st 0 (cs' := nmCs C ca cc m n.back y) Z Z Z Z Z (by show 22 < 29; omega) Z Z yr (VA.go (AN ?_)))
 exact Ret.void Z (Imp.ent (Imp.nmB (n := n.back) (y := y) Imp.nil)) ⟨rfl, Z⟩
theorem sub_row {r : RL RdR} (h : r.Ok rdC 34) {k : Nat} {x : RdR} (hx : r.xs[k]? = some x) : ∃ b off, r.blk = some b ∧ r.addr = some ⟨b, off, none⟩ ∧
  ∀ {X : Cx} {L : List HP} (i : Nat), L[i]? = some (r.h rrdT) → (∀ ti : TI, 29 = ti.size → ti.und.agg = true → RdL X L ti b (off + k * 34 + 1) (.agg (fgC x.1.f x.2).toArray)) ∧ (∀ ti : TI, 4 = ti.size → ti.und.agg = true → RdL X L ti b (off + k * 34 + 30) (.agg (resC x.1.r).toArray)) := by
 obtain ⟨b, off, h1, h2, h3⟩ := h.nth hx
 refine ⟨b, off, h1, h2, fun {X L} i hL => ?_⟩
 rw [RL.h_pt h1] at hL
 refine ⟨fun ti hn ha => RdL.many i hL ?_ (by rw [← hn]; rfl) ha, fun ti hn ha => RdL.many i hL ?_ (by rw [← hn]; rfl) ha⟩
 ·rw [← hn]
  have : ((rdC x).drop 1).take 29 = fgC x.1.f x.2 := rfl
  rw [← h3, List.drop_take, List.take_take, List.drop_drop] at this
  exact this
 ·rw [← hn]
  have : ((rdC x).drop 30).take 4 = resC x.1.r := rfl
  rw [← h3, List.drop_take, List.take_take, List.drop_drop] at this
  exact this
theorem since_zero {c : ChM} {i : Int} (h : (sinceOf c i).2 = false) : (sinceOf c i).1 = 0 := by
 unfold sinceOf at h ⊢
 split at h
 ·cases h
 ·rename_i h2; rw [if_neg h2]
theorem ent2_id (n : NdM) (c : ChM) : (n.ent2 c).id = n.id ∧ (n.ent2 c).out = n.out ∧ (n.ent2 c).ch = n.ch := by
 unfold NdM.ent2
 split
 ·exact ⟨rfl, Z, Z⟩
 split <;> exact ⟨rfl, rfl, rfl⟩
theorem nenter_spec (ok : NdOk C n) (ho : n.out.length ≤ 1000000) {c : ChM} {m2 : MemP} (hm2 : RwIn memC 2 Fr w m2.1 c.ms) (hc : c.ms.length ≤ 1000) : Tri Tryz.prog 116 [.pointer (some ⟨p, 0, none⟩), .agg (c.cells m2.1 m2.2).toArray] Fr w [nmH p C ca cc m n]
  (fun v L => v = .tuple #[] ∧ L = [nmH p C ca cc m2 (n.enter C c)]) := by
 have hrl := ok.rl; have hlg := ok.log
 refine TF 113 Tryz.func116 Z yn tabOk Z Z ?_
 refine CS (CG (VG (VB (vs := c.cells m2.1 m2.2) Z fun cb => VG (VN ?_))))
 refine xly ?_
 rintro y -
 show VC _ _ _ [pt p (nmCs C ca cc m n y) ndT, rlogH y.lp n.log, radH y.ap C ca cc n.adm, rrdsH y.rp n.rds, slH rsnT 30 y.oa n.out.length y.oc (flat sndC n.out), pt cb (c.cells m2.1 m2.2) chT] _
 refine CS ?_
 refine VC.meetS (σ := RL FM × RL RdR) (fun s => [(0, pV p), (3, pV cb), (4, .slice s.1.addr s.1.xs.length s.1.cap), (5, .slice s.2.addr s.2.xs.length s.2.cap)]) (fun s => [nmH p C ca cc m n.ent1, s.1.h frT, s.2.h rrdT, pt cb (c.cells m2.1 m2.2) chT]) (fun s => s.1.Ok fmc 29 ∧ s.1.xs.map Prod.fst = n.adm.sch.goneM bigT ∧ s.1.xs.length ≤ 64 ∧ s.2.Ok rdC 34 ∧ s.2.xs.map Prod.fst = n.rds.l) ?_ ?_
 ·refine CD (ts 0 4 (ts 5 4 (.only 4 (.only 9 (ts 10 2 .nil))))) yn yq ?_
  refine xdr ?_
  refine VA.ent (L' := [radH y.ap C ca cc n.adm, pt p (nmCs C ca cc m n y) ndT, rlogH y.lp n.log, rrdsH y.rp n.rds, slH rsnT 30 y.oa n.out.length y.oc (flat sndC n.out), pt cb (c.cells m2.1 m2.2) chT]) (IP 2 Z Imp.refl).ent ?_
  refine VA.go (AO (OC (Lc := [radH y.ap C ca cc n.adm]) Z (.refl _) (fun Fr w hF hs hS => rflush_spec Fr w ok.ra)) Z ?_ ?_)
  ·rintro _ _ ⟨_, ⟨r, hok, hrx, h64, rfl, rfl⟩, rfl⟩
   exact yr
  rintro _ _ ⟨_, ⟨r, hok, hrx, h64, rfl, rfl⟩, rfl⟩
  refine VA.ent (L' := [rrdsH y.rp n.rds, r.h frT, radH y.ap C ca cc (raExp n.adm bigT), pt p (nmCs C ca cc m n y) ndT, rlogH y.lp n.log, slH rsnT 30 y.oa n.out.length y.oc (flat sndC n.out), pt cb (c.cells m2.1 m2.2) chT]) (IP 4 Z Imp.refl).ent ?_
  refine VA.go (AO (OC (Lc := [rrdsH y.rp n.rds]) Z (.refl _) (fun Fr w hF hs hS => rrflush_spec Fr w)) Z ?_ ?_)
  ·rintro _ _ ⟨_, ⟨r2, hok2, hrx2, rfl, rfl⟩, rfl⟩
   exact yr
  rintro _ _ ⟨_, ⟨r2, hok2, hrx2, rfl, rfl⟩, rfl⟩
  refine xem ?_
  exact ⟨(r, r2), ⟨hok, hrx, h64, hok2, hrx2⟩, sbZ, Imp.ent (Imp.nm (n := n.ent1) y (pkZ [4, 4, 3, 1, 2, 1, 0, 0]))⟩
 rintro ⟨r, r2⟩ ⟨hok, hrx, h64, hok2, hrx2⟩
 dsimp only at hok hrx h64 hok2 hrx2 ⊢
 have ok1 := ok.ent1
 obtain ⟨n1, hn1⟩ : ∃ n1, n1 = n.ent1 := ⟨_, rfl⟩
 have hid : n1.id = n.id := by rw [hn1]; rfl
 have ho1 : n1.out = n.out := by rw [hn1]; rfl
 have hen : n.enter C c = (((((n1.ent2 c).ent3 c).refs (n.adm.sch.goneM bigT) 9).refs (n.rds.l.map RdM.f) 9).finish.greet C).base.alive := by rw [NdM.enter, NdM.ent4, hn1]
 rw [← hn1] at ok1 ⊢
 have ok3 := ok1.ent3 hc
 refine VC.opn 0 Z (HOpn.nm p C ca cc m n1) ?_
 rintro y -
 show VC _ _ _ [pt p (nmCs C ca cc m n1 y) ndT, rlogH y.lp n1.log, radH y.ap C ca cc n1.adm, rrdsH y.rp n1.rds, slH rsnT 30 y.oa n1.out.length y.oc (flat sndC n1.out), r.h frT, r2.h rrdT, pt cb (c.cells m2.1 m2.2) chT] _
 refine CS (CD (ts 0 5 (.only 5 (ts 6 5 .nil))) yn yq ?_)
 refine VA.go (VA.ldA 7 (c.cells m2.1 m2.2) Z Z Z Z Z ?_)
 refine xdr ?_
 refine VA.go (AR (fun Fr w hF hs hS => rsince_spec Fr w (c := c) (RwIn.of hm2 hF hs) ye n1.id) Z Z yr ?_)
 refine xem ?_
 refine CS ?_
 refine VC.meetS (σ := Unit) (fun _ => [(0, pV p), (3, pV cb), (4, .slice r.addr r.xs.length r.cap), (5, .slice r2.addr r2.xs.length r2.cap), (6, .int .i64 (sinceOf c n1.id).1)]) (fun _ => [nmH p C ca cc m (n1.ent2 c), r.h frT, r2.h rrdT, pt cb (c.cells m2.1 m2.2) chT]) (fun _ => True) ?_ ?_
 ·refine xdj ?_
  refine CC Z (fun h1 => ?_) (fun h1 => ?_)
  ·have h1 : (sinceOf c n1.id).2 = false := by simpa using h1
   have e : n1.ent2 c = { n1 with whole := false } := by rw [NdM.ent2, if_pos h1]
   refine xdj ?_
   refine VG (VO.st 0 (cs' := nmCs C ca cc m { n1 with whole := false } y) Z Z Z Z yca Z Z ?_)
   refine xfu ?_
   exact ⟨(), trivial, SC Z (SC Z (SC Z (SC Z (SC (by rw [since_zero h1]; rfl) (SN _))))), by rw [e]; exact Imp.ent (Imp.nmB (n := { n1 with whole := false }) (y := y) Imp.refl)⟩
  have h1 : ¬ (sinceOf c n1.id).2 = false := by simpa using h1
  refine xdj ?_
  refine VC.condNE (i := (sinceOf c n1.id).1) (j := n1.since) Z (fun h2 => ?_) (fun h2 => CK ?_)
  rotate_left
  ·have e : n1.ent2 c = n1 := by rw [NdM.ent2, if_neg h1, if_neg (fun h => h h2)]
   exact ⟨(), trivial, sbZ, by rw [e]; exact Imp.ent (Imp.nmB (n := n1) (y := y) Imp.refl)⟩
  have e : n1.ent2 c = { n1 with log := [], done := 0, whole := false } := by rw [NdM.ent2, if_neg h1, if_pos h2]
  refine CG ?_
  refine xdv ?_
  refine VG (VK (Lc := []) (fun Fr w hF hs hS => rlnew_spec Fr w) Z Z ?_)
  rintro _ _ ⟨q, rfl, rfl⟩
  refine VG (VO.st 1 (cs' := nmCs C ca cc m n1 ⟨q, y.ap, y.rp, y.oa, y.oc⟩) Z Z Z Z (by show 20 < 29; omega) Z Z ?_)
  refine VG (VO.st 1 (cs' := nmCs C ca cc m { n1 with done := 0 } ⟨q, y.ap, y.rp, y.oa, y.oc⟩) Z Z Z Z ych Z Z ?_)
  refine VG (VO.st 1 (cs' := nmCs C ca cc m { n1 with done := 0, whole := false } ⟨q, y.ap, y.rp, y.oa, y.oc⟩) Z Z Z Z yca Z Z ?_)
  refine xfu ?_
  exact ⟨(), trivial, sbZ, by rw [e]; exact Imp.ent (Imp.nm (n := { n1 with log := [], done := 0, whole := false }) ⟨q, y.ap, y.rp, y.oa, y.oc⟩ (IP 1 Z (IP 0 Z (IP 1 Z (IP 1 Z (IP 1 Z Imp.tl))))))⟩
 rintro _ -
 obtain ⟨i1, i2, i3⟩ := ent2_id n1 c
 obtain ⟨n2, hn2⟩ : ∃ n2, n2 = n1.ent2 c := ⟨_, rfl⟩
 rw [← hn2] at ok3 i1 i2 i3 hen ⊢
 refine VC.opn 0 Z (HOpn.nm p C ca cc m n2) ?_
 rintro y -
 show VC _ _ _ [pt p (nmCs C ca cc m n2 y) ndT, rlogH y.lp n2.log, radH y.ap C ca cc n2.adm, rrdsH y.rp n2.rds, slH rsnT 30 y.oa n2.out.length y.oc (flat sndC n2.out), r.h frT, r2.h rrdT, pt cb (c.cells m2.1 m2.2) chT] _
 refine zpw ?_
 refine VG (VL 7 (c.cells m2.1 m2.2) Z Z Z Z ?_)
 refine VG (VT 0 (vs := c.cells m2.1 m2.2) (cs' := nmCs C ca cc m2 { n2 with ch := c } y) Z Z Z Z (by show 16 ≤ 29; omega) Z Z Z ?_)
 refine VG (VO.st 0 (cs' := nmCs C ca cc m2 { n2 with ch := c, since := (sinceOf c n1.id).1 } y) Z Z Z Z (by show 16 < 29; omega) Z Z ?_)
 refine xfu ?_
 show VC _ _ _ _ _
 refine zpw ?_
 refine VG (VV (fun Fr w hF hs hS => nlast_spec (n := { n2 with ch := c, since := (sinceOf c n1.id).1 }) Fr w (NmIn.pcs hS 0 Z Z Z Z)) Z ?_)
 refine VG (VO.st 0 (cs' := nmCs C ca cc m2 { n2 with ch := c, since := (sinceOf c n1.id).1, linked := false } y) Z Z Z Z (by show 27 < 29; omega) Z Z ?_)
 refine VG (VO.st 0 (cs' := nmCs C ca cc m2 { n2 with ch := c, since := (sinceOf c n1.id).1, linked := false, have_ := 0 } y) Z Z Z Z yaf Z Z ?_)
 refine VG (VO.st 0 (cs' := nmCs C ca cc m2 { n2 with ch := c, since := (sinceOf c n1.id).1, linked := false, have_ := 0, bs := -1 } y) Z Z Z Z (by show 19 < 29; omega) Z Z ?_)
 refine VG (VO.st 0 (cs' := nmCs C ca cc m2 { n2 with ch := c, since := (sinceOf c n1.id).1, linked := false, have_ := 0, bs := -1, st := n2.log.length } y) Z Z Z Z (by show 18 < 29; omega) Z Z ?_)
 refine xfu ?_
 show VC _ _ _ _ _
 refine zpw ?_
 refine VG (VV (fun Fr w hF hs hS => nlast_spec (n := { n2 with ch := c, since := (sinceOf c n1.id).1, linked := false, have_ := 0, bs := -1, st := n2.log.length }) Fr w (NmIn.pcs hS 0 Z Z Z Z)) Z ?_)
 refine VG (VO.st 0 (cs' := nmCs C ca cc m2 { n2 with ch := c, since := (sinceOf c n1.id).1, linked := false, have_ := 0, bs := -1, st := n2.log.length, sent := n2.log.length } y) Z Z Z Z (by show 22 < 29; omega) Z Z ?_)
 obtain ⟨n3, hn3⟩ : ∃ n3, n3 = n2.ent3 c := ⟨_, rfl⟩
 have en3 : ({ n2 with ch := c, since := (sinceOf c n1.id).1, linked := false, have_ := 0, bs := -1, st := n2.log.length, sent := n2.log.length, limit := 0 } : NdM) = n3 := by rw [hn3, NdM.ent3, i1]
 refine VG (VO.st 0 (cs' := nmCs C ca cc m2 n3 y) Z Z Z Z (by show 23 < 29; omega) ycl Z ?_)
 refine xfu ?_
 show VC _ _ _ _ _
 refine CN (L' := [nmH p C ca cc m2 n3, r.h frT, r2.h rrdT, pt cb (c.cells m2.1 m2.2) chT]) (Imp.ent (Imp.nm (n := n3) y (IP 0 Z (IP 0 ycl (IP 0 ycl (IP 0 ycl (IP 0 ycl Imp.refl))))))) ?_
 rw [← hn3] at ok3 hen
 have ho3 : n3.out = n.out := by rw [← en3]; show n2.out = _; rw [i2, ho1]
 have hch3 : n3.ch = c := by rw [← en3]
 obtain ⟨gs, hgs⟩ : ∃ gs, gs = n.adm.sch.goneM bigT := ⟨_, rfl⟩
 obtain ⟨ws, hws⟩ : ∃ ws, ws = n.rds.l.map RdM.f := ⟨_, rfl⟩
 rw [← hgs] at hrx hen
 rw [← hws] at hen
 have hgl : r.xs.length = gs.length := by rw [← hrx, List.length_map]
 have hwl : r2.xs.length = ws.length := by rw [hws, ← hrx2, List.length_map, List.length_map]
 have hwl2 : ws.length ≤ 16 := by rw [hws, List.length_map]; exact hrl
 have gcl : ∀ f ∈ gs, 0 ≤ f.client ∧ f.client < 6 := fun f hf => gone_client ok.ra.c6 ok.calls (by rw [← hgs]; exact hf)
 have wcl : ∀ f ∈ ws, 0 ≤ f.client ∧ f.client ≤ 1000 := fun f hf => by
  rw [hws] at hf
  obtain ⟨x, hx, rfl⟩ := List.mem_map.1 hf
  exact ok.rcl x hx
 have hrl1 : ∀ (N : NdM) (l : List FrameM) (z : Int), (N.refs l z).out.length = N.out.length + l.length := fun N l z => by unfold NdM.refs; simp
 refine CS ?_
 refine VC.meetS (σ := Unit) (fun _ => [(0, pV p), (5, .slice r2.addr r2.xs.length r2.cap)]) (fun _ => [nmH p C ca cc m2 (n3.refs gs 9), r2.h rrdT]) (fun _ => True) ?_ ?_
 ·refine xdz ?_
  show VC _ _ _ _ _
  refine xje ?_
  refine VC.loop (σ := Nat) (fun i => [(0, pV p), (4, .slice r.addr r.xs.length r.cap), (5, .slice r2.addr r2.xs.length r2.cap), (8, .int .i64 i)]) (fun i => [nmH p C ca cc m2 (n3.refs (gs.take i) 9), r.h frT, r2.h rrdT]) (fun i => i ≤ r.xs.length) (fun i => r.xs.length - i) 0
   (Nat.zero_le _) sbZ (by show Ent _ _ [nmH p C ca cc m2 (n3.refs [] 9), r.h frT, r2.h rrdT]; rw [refs_nil]; exact (pkZ [0, 0, 0]).ent) ?_
  rintro i hi
  refine xkn ?_
  refine CP (p := (i : Int) < (r.xs.length : Int)) Z (fun h1 => CK ?_) (fun h1 => CX ?_)
  rotate_left
  ·have : i = gs.length := by omega
   subst this
   rw [List.take_length]
   exact ⟨(), trivial, sbZ, (pkZ [0, 1]).ent⟩
  have h1 : i < r.xs.length := by omega
  obtain ⟨x, hx⟩ : ∃ x, r.xs[i]? = some x := ⟨_, GE h1⟩
  have hxl : gs[i]? = some x.1 := by rw [← hrx, List.getElem?_map, hx]; rfl
  have htk : gs.take (i + 1) = gs.take i ++ [x.1] := by rw [List.take_add_one, hxl]; rfl
  have hxc := gcl x.1 (ME hxl)
  obtain ⟨tb, tof, htb, hta, hrd⟩ := RL.Ok.ld (t := frT) hok hx (fmc_len x)
  rw [hta]
  refine CS (VC.block (CG ?_))
  refine xkn ?_
  refine xlr ?_
  refine VG (VD Z Z ((hrd 1 Z).1 _ Z Z) ?_)
  refine VG (VQ 0 (ψ := fun v H => H = nmH p C ca cc m2 ((n3.refs (gs.take i) 9).refuse x.1 9)) Z (fun Fr w hF hs _ => nrefuse_spec Fr w (by rw [hrl1, ho3, List.length_take]; omega) x 9 ye ye) Z ybh ?_)
  rintro _ _ rfl
  refine xfu ?_
  rw [← hta, ← refs_snoc, ← htk]
  show VC _ _ _ _ _
  refine zoc ?_
  exact xmp
 rintro _ -
 obtain ⟨n4, hn4⟩ : ∃ n4, n4 = n3.refs gs 9 := ⟨_, rfl⟩
 have ok4 := ok3.refs gs 9
 have ho4 : n4.out.length = n.out.length + gs.length := by rw [hn4, hrl1, ho3]
 have hch4 : n4.ch = c := by rw [hn4]; exact hch3
 rw [← hn4] at hen ok4 ⊢
 refine CS ?_
 refine VC.meetS (σ := Unit) (fun _ => [(0, pV p)]) (fun _ => [nmH p C ca cc m2 (n4.refs ws 9)]) (fun _ => True) ?_ ?_
 ·refine xdz ?_
  show VC _ _ _ _ _
  refine xje ?_
  refine VC.loop (σ := Nat) (fun i => [(0, pV p), (5, .slice r2.addr r2.xs.length r2.cap), (9, .int .i64 i)]) (fun i => [nmH p C ca cc m2 (n4.refs (ws.take i) 9), r2.h rrdT]) (fun i => i ≤ r2.xs.length) (fun i => r2.xs.length - i) 0
   (Nat.zero_le _) sbZ (by show Ent _ _ [nmH p C ca cc m2 (n4.refs [] 9), r2.h rrdT]; rw [refs_nil]; exact ER) ?_
  rintro i hi
  refine xkn ?_
  refine CP (p := (i : Int) < (r2.xs.length : Int)) Z (fun h1 => CK ?_) (fun h1 => CX ?_)
  rotate_left
  ·have : i = ws.length := by omega
   subst this
   rw [List.take_length]
   exact ⟨(), trivial, sbZ, (IP 0 Z Imp.nil).ent⟩
  have h1 : i < r2.xs.length := by omega
  obtain ⟨x, hx⟩ : ∃ x, r2.xs[i]? = some x := ⟨_, GE h1⟩
  have hxl : ws[i]? = some x.1.f := by rw [hws, ← hrx2, List.getElem?_map, List.getElem?_map, hx]; rfl
  have htk : ws.take (i + 1) = ws.take i ++ [x.1.f] := by rw [List.take_add_one, hxl]; rfl
  have hxc := wcl x.1.f (ME hxl)
  obtain ⟨tb, tof, htb, hta, hrd⟩ := sub_row hok2 hx
  rw [hta]
  refine CS (VC.block (CG ?_))
  refine xkn ?_
  refine xlr ?_
  refine xkn ?_
  refine VG (VD Z Z ((hrd 1 Z).1 _ Z Z) ?_)
  refine VG (VQ 0 (ψ := fun v H => H = nmH p C ca cc m2 ((n4.refs (ws.take i) 9).refuse x.1.f 9)) Z (fun Fr w hF hs _ => nrefuse_spec Fr w (by rw [hrl1, ho4, List.length_take]; omega) (x.1.f, x.2) 9 (by show -1000000 ≤ x.1.f.client; omega) (by show x.1.f.client ≤ 1000000; omega)) Z ybh ?_)
  rintro _ _ rfl
  refine xfu ?_
  rw [← hta, ← refs_snoc, ← htk]
  show VC _ _ _ _ _
  refine zoc ?_
  exact xmp
 rintro _ -
 obtain ⟨n5, hn5⟩ : ∃ n5, n5 = n4.refs ws 9 := ⟨_, rfl⟩
 have ok5 := ok4.refs ws 9
 have ho5 : n5.out.length ≤ 1000100 := by rw [hn5, hrl1, ho4]; omega
 have hch5 : n5.ch = c := by rw [hn5]; exact hch4
 rw [← hn5] at hen ok5 ⊢
 have fch : n5.finish.ch = c := by unfold NdM.finish; split <;> exact hch5
 have gch : (n5.finish.greet C).ch = c := by unfold NdM.greet; split <;> exact fch
 have fl : n5.finish.out.length ≤ 2000000 := by
  have := ok5.log; have := ok5.d0
  unfold NdM.finish
  split
  ·unfold NdM.fin; simp; omega
  ·omega
 have gl : (n5.finish.greet C).out.length ≤ 2000001 := by unfold NdM.greet; split; omega; (unfold NdM.send; simp; omega)
 have bl : (n5.finish.greet C).base.out.length ≤ 2000002 := by unfold NdM.base; split; (unfold NdM.send; simp; omega); omega
 rw [hen]
 refine xgw ?_
 refine VG (VQ 0 (ψ := fun v H => H = nmH p C ca cc m2 n5.finish) Z (fun Fr w hF hs _ => nfinish_spec Fr w ok5 (by rw [hch5]; exact RwIn.of hm2 hF hs) ye) Z ybh ?_)
 rintro _ _ rfl
 refine xfu ?_
 show VC _ _ _ _ _
 refine xgw ?_
 refine VG (VQ 0 (ψ := fun v H => H = nmH p C ca cc m2 (n5.finish.greet C)) Z (fun Fr w hF hs _ => ngreet_spec Fr w ok5.finish (by rw [fch]; exact RwIn.of hm2 hF hs) ye) Z ybh ?_)
 rintro _ _ rfl
 refine xfu ?_
 show VC _ _ _ _ _
 refine xgw ?_
 refine VG (VQ 0 (ψ := fun v H => H = nmH p C ca cc m2 (n5.finish.greet C).base) Z (fun Fr w hF hs _ => nbase_spec Fr w (by rw [gch]; exact hc) (by rw [gch]; exact RwIn.of hm2 hF hs) ye) Z ybh ?_)
 rintro _ _ rfl
 refine xfu ?_
 show VC _ _ _ _ _
 refine CG ?_
 refine VG (VQ 0 (ψ := fun v H => H = nmH p C ca cc m2 (n5.finish.greet C).base.alive) Z (fun Fr w hF hs _ => nalive_spec Fr w ye) Z ybh ?_)
 rintro _ _ rfl
 refine xfu ?_
 exact xdy
end
end Nd
namespace Nd
open Go Vg T Api Kv Ch Lg Rd Win Adm Sched Conf Rep Ref16 Rk
attribute [local irreducible] VO VC VA
section
variable {p : Nat} {C : ConfM} {ca : Option Addr} {cc : Nat} {m : MemP} {n : NdM} {y : NmS}
def nmC0 (C : ConfM) (ca : Option Addr) (cc : Nat) (m : MemP) (n : NdM) (y : NmS) (on : Nat) : List Value := C.cells ca cc ++ (.int .i64 n.id :: (n.ch.cells m.1 m.2 ++ [.int .i64 n.since, .bool n.whole, .int .i64 n.st, .int .i64 n.bs, .pointer (some ⟨y.lp, 0, none⟩), .int .i64 n.done, .int .i64 n.sent, .int .i64 n.limit, .int .i64 n.have_, .pointer (some ⟨y.ap, 0, none⟩), .pointer (some ⟨y.rp, 0, none⟩), .bool n.linked, .slice y.oa on y.oc]))
def nmL0 (p : Nat) (C : ConfM) (ca : Option Addr) (cc : Nat) (m : MemP) (n : NdM) (x : NmS × Nat) : List HP := [pt p (nmC0 C ca cc m n x.1 x.2) ndT, rlogH x.1.lp n.log, radH x.1.ap C ca cc n.adm, rrdsH x.1.rp n.rds]
def nm0 (p : Nat) (C : ConfM) (ca : Option Addr) (cc : Nat) (m : MemP) (n : NdM) : HP := hex fun x => hsep (nmL0 p C ca cc m n x)
theorem HOpn.nm0 (p : Nat) (C : ConfM) (ca : Option Addr) (cc : Nat) (m : MemP) (n : NdM) : HOpn (ι := NmS × Nat) (nm0 p C ca cc m n) (fun _ => True) (fun x => nmL0 p C ca cc m n x) := fun w ids ⟨x, h⟩ hn => ⟨x, trivial, ids, h, hn, fun _ h => h⟩
theorem Imp.nm0 {L M : List HP} (x : NmS × Nat) (h : Imp L (nmL0 p C ca cc m n x ++ M)) : Imp L (nm0 p C ca cc m n :: M) :=
 Imp.ex (f := fun x => hsep (nmL0 p C ca cc m n x)) x (Imp.sep (Ls := nmL0 p C ca cc m n x) h)
def sentN (S : List SndM) (v : Value) (L : List HP) (H : List HP) : Prop := ∃ a c, v = .slice a S.length c ∧ L = H ++ [slH rsnT 30 a S.length c (flat sndC S)]
def nowV (now : Int) : Int := if now < 0 then 0 else now
def mxV (a b : Int) : Int := if a < b then b else a
def mnV (a b : Int) : Int := if b < a then b else a
def NdM.own (n : NdM) (from_ : Int) (f : FrameM) : Bool := decide (0 ≤ from_) && ((f.epoch == n.ch.epoch) && decide (0 ≤ n.place))
def NdM.fwdOk (C : ConfM) (n : NdM) (e : EntryM) : Prop := e.index = n.log.length + 1 ∧ n.log.length - n.done < C.window ∧ n.log.length < 4096
instance (C : ConfM) (n : NdM) (e : EntryM) : Decidable (n.fwdOk C e) := by unfold NdM.fwdOk; infer_instance
def NdM.fwd1 (C : ConfM) (n : NdM) (e : EntryM) : NdM := if n.fwdOk C e ∧ logErr n.log e = 0 then NdM.becomes (NdM.finish { n with log := n.log ++ [e] }) else n
def NdM.forward (C : ConfM) (n : NdM) (e : EntryM) : NdM := (n.fwd1 C e).greet C
def NdM.ack1 (n : NdM) (f : FrameM) : NdM := if n.linked then { n with have_ := mxV n.have_ f.have_ } else NdM.back { n with linked := true, have_ := f.have_ }
def NdM.ack2 (n : NdM) (f : FrameM) : NdM := { n.ack1 f with limit := mxV (n.ack1 f).limit (mnV f.grant 4112) }
def NdM.ackN (C : ConfM) (n : NdM) (f : FrameM) : NdM := if (n.ack2 f).ackB f.index then ((n.ack2 f).ack f.index).greet C else n.ack2 f
def NdM.sure (n : NdM) (i : Int) : NdM := { n with rds := { n.rds with l := n.rds.l.drop (rsure i n.rds) }, out := n.out ++ (n.rds.l.take (rsure i n.rds)).map fun x => (32 + x.f.client, replyF x.f.client x.f.seq x.f.try_ x.r) }
def NdM.enters (n : NdM) (from_ : Int) (f : FrameM) (ms : List MemM) : Prop := f.kind = 8 ∧ from_ = 16 ∧ n.ch.epoch < f.cepoch ∧ chE (frCh f ms) = 0
instance (n : NdM) (from_ : Int) (f : FrameM) (ms : List MemM) : Decidable (n.enters from_ f ms) := by unfold NdM.enters; infer_instance
def NdM.take0 (C : ConfM) (n : NdM) (from_ : Int) (f : FrameM) (ms : List MemM) (now : Int) : NdM :=
 if f.kind = 1 then (if f.client < 0 ∨ C.clients ≤ f.client then n else if readsM f.op = true then n.read f now else n.update f now)
 else if f.kind = 8 then (if n.enters from_ f ms then n.enter C (frCh f ms) else n)
 else if f.kind = 4 then (if n.own from_ f = true ∧ from_ = n.ahead then n.forward C f.entry else n)
 else if f.kind = 5 then (if n.own from_ f = true ∧ from_ = n.next then n.ackN C f else n)
 else if f.kind = 6 then (if n.own from_ f = true ∧ from_ = n.ahead then NdM.becomes { n with bs := f.index } else n)
 else if f.kind = 10 then (if n.own from_ f = true ∧ from_ = 16 then n.sure f.index else n)
 else n
def NdM.take (C : ConfM) (n : NdM) (from_ : Int) (f : FrameM) (ms : List MemM) (now : Int) : NdM := NdM.take0 C { n with out := [] } from_ f ms (nowV now)
theorem NdOk.logApp (k : NdOk C n) {e : EntryM} (hl : n.log.length < 4096) (he : logErr n.log e = 0) : NdOk C { n with log := n.log ++ [e] } := by
 have hlen : (n.log ++ [e]).length = n.log.length + 1 := by simp
 have hcl : 0 ≤ e.client ∧ e.client < 6 := by
  have hb : badE e = false := by
   cases h : badE e with
   | false => rfl
   | true => rw [logErr, if_pos h] at he; cases he
  simp only [badE, Bool.or_eq_false_iff, decide_eq_false_iff_not] at hb
  omega
 refine ⟨k.ms, by show (n.log ++ [e]).length ≤ 4096; omega, log_num k.num he, ?_, k.ra, k.calls, k.d0, ?_, k.s0, ?_, k.w0, k.w1, k.rl, k.rc, k.rn0, k.rn1, k.rcl⟩
 ·intro x hx
  rcases List.mem_append.1 hx with hx | hx
  ·exact k.logc x hx
  ·obtain rfl : x = e := by simpa using hx
   exact hcl
 ·have := k.d1; show n.done ≤ ((n.log ++ [e]).length : Int); omega
 ·have := k.s1; show n.sent ≤ ((n.log ++ [e]).length : Int); omega
theorem finish_ch (n : NdM) : n.finish.ch = n.ch := by unfold NdM.finish; split <;> rfl
theorem base_ch (n : NdM) : n.base.ch = n.ch := by unfold NdM.base; split <;> rfl
theorem becomes_ch (n : NdM) : n.becomes.ch = n.ch := by
 unfold NdM.becomes; split
 ·rw [base_ch]
 ·rfl
theorem finish_out (k : NdOk C n) : n.finish.out.length ≤ n.out.length + 4096 := by
 have := k.log; have := k.d0
 unfold NdM.finish
 split
 ·unfold NdM.fin; simp; omega
 ·omega
theorem base_out (n : NdM) : n.base.out.length ≤ n.out.length + 1 := by unfold NdM.base; split; (unfold NdM.send; simp); omega
theorem becomes_out (n : NdM) : n.becomes.out.length ≤ n.out.length + 1 := by
 unfold NdM.becomes; split
 ·exact base_out _
 ·omega
theorem NdOk.fwd1 (k : NdOk C n) (e : EntryM) : NdOk C (n.fwd1 C e) := by
 unfold NdM.fwd1
 split
 ·rename_i h; exact (k.logApp (by have := h.1.2.2; omega) h.2).finish.becomes
 ·exact k
theorem fwd1_ch (C : ConfM) (n : NdM) (e : EntryM) : (n.fwd1 C e).ch = n.ch := by
 unfold NdM.fwd1
 split
 ·rw [becomes_ch, finish_ch]
 ·rfl
theorem fwd1_out (k : NdOk C n) (e : EntryM) : (n.fwd1 C e).out.length ≤ n.out.length + 4097 := by
 unfold NdM.fwd1
 split
 ·rename_i h
  have h1 := finish_out (k.logApp (by have := h.1.2.2; omega) h.2)
  have h2 := becomes_out (NdM.finish { n with log := n.log ++ [e] })
  have h3 : ({ n with log := n.log ++ [e] } : NdM).out.length = n.out.length := rfl
  omega
 ·omega
theorem Ent.opn {X : Cx} {L M : List HP} {ι : Type} {H : HP} {φ : ι → Prop} {Ls : ι → List HP} (i : Nat) (hL : L[i]? = some H) (h : HOpn H φ Ls) (k : ∀ x, φ x → Ent X (Ls x ++ L.eraseIdx i) M) : Ent X L M := fun w hw => by
 obtain ⟨x, hx, h2⟩ := HOpn.st i hL h w hw
 exact k x hx w h2
def nqL (p : Nat) (C : ConfM) (ca : Option Addr) (cc : Nat) (m : MemP) (n : NdM) (lp ap rp : Nat) (x : Option Addr × Nat) : List HP := [pt p (nmCs C ca cc m n ⟨lp, ap, rp, x.1, x.2⟩) ndT, slH rsnT 30 x.1 n.out.length x.2 (flat sndC n.out)]
def nqH (p : Nat) (C : ConfM) (ca : Option Addr) (cc : Nat) (m : MemP) (n : NdM) (lp ap rp : Nat) : HP := hex fun x => hsep (nqL p C ca cc m n lp ap rp x)
theorem HOpn.nq (p : Nat) (C : ConfM) (ca : Option Addr) (cc : Nat) (m : MemP) (n : NdM) (lp ap rp : Nat) : HOpn (ι := Option Addr × Nat) (nqH p C ca cc m n lp ap rp) (fun _ => True) (fun x => nqL p C ca cc m n lp ap rp x) := fun w ids ⟨x, h⟩ hn => ⟨x, trivial, ids, h, hn, fun _ h => h⟩
theorem Imp.nq {lp ap rp : Nat} {L M : List HP} (x : Option Addr × Nat) (h : Imp L (nqL p C ca cc m n lp ap rp x ++ M)) : Imp L (nqH p C ca cc m n lp ap rp :: M) :=
 Imp.ex (f := fun x => hsep (nqL p C ca cc m n lp ap rp x)) x (Imp.sep (Ls := nqL p C ca cc m n lp ap rp x) h)
theorem nsendq_spec (lp ap rp : Nat) (ho : n.out.length ≤ 10000000) (to : Int) (f : FrameM) : Tri Tryz.prog 97 [.pointer (some ⟨p, 0, none⟩), .int .i64 to, .agg (fgC f mem0).toArray] Fr w [nqH p C ca cc m n lp ap rp]
  (fun v L => v = .tuple #[] ∧ L = [nqH p C ca cc m (n.send to f) lp ap rp]) := by
 refine TF 18 Tryz.func97 Z yn tabOk Z Z ?_
 refine CS (CG (VG (VB (vs := fgC f mem0) Z fun fb => VG (VN ?_))))
 refine VC.opn 1 Z (HOpn.nq p C ca cc m n lp ap rp) ?_
 rintro y -
 show VC _ _ _ [pt p (nmCs C ca cc m n ⟨lp, ap, rp, y.1, y.2⟩) ndT, slH rsnT 30 y.1 n.out.length y.2 (flat sndC n.out), pt fb (fgC f mem0) frT] _
 refine xij ?_
 refine xdr ?_
 refine VA.go (VA.ldA 2 (fgC f mem0) Z Z Z Z Z ?_)
 refine xlz ?_
 refine VA.go (AO (OpT.buildSlice (n := 1) (pv := [(0, .agg (sndC (to, f)).toArray)]) (cells := sndC (to, f)) Z Z Z Z yy (fill_one Z Z Z)) Z ?_ ?_)
 ·rintro v L' ⟨nb, rfl, rfl⟩
  exact yr
 rintro v L' ⟨nb, rfl, rfl⟩
 refine VA.go (AO (OpT.append (m := 1) (news := sndC (to, f)) 2 Z Z Z Z Z Z Z (RdRow.pt 0 Z Z Z) Z (small_bytes (k := 10000001) ye yy) ye) Z ?_ ?_)
 ·rintro v L' ⟨a2, c2, rfl, hc2, rfl⟩
  exact yr
 rintro v L' ⟨a2, c2, rfl, hc2, rfl⟩
 refine xej ?_
 have hlen : (n.send to f).out.length = n.out.length + 1 := by show (n.out ++ [(to, f)]).length = _; simp
 refine VA.go (VA.st 2 (cs' := nmCs C ca cc m (n.send to f) ⟨lp, ap, rp, a2, c2⟩) Z Z Z Z Z ycf (by unfold nmCs; rw [hlen]; rfl) Z yr (VA.go (AN ?_)))
 refine Ret.void Z (Imp.ent (Imp.nq (n := n.send to f) (a2, c2) ?_)) ⟨rfl, Z⟩
 unfold nqL
 rw [hlen, show flat sndC (n.send to f).out = flat sndC n.out ++ sndC (to, f) from by show flat sndC (n.out ++ [(to, f)]) = _; simp [flat_append, flat_cons, flat_nil]]
 exact (pkZ [2, 0])
theorem nreplyq_spec (lp ap rp : Nat) (ho : n.out.length ≤ 10000000) (c s t : Int) (hc0 : -1000000 ≤ c) (hc1 : c ≤ 1000000) (r : ResM) : Tri Tryz.prog 120 [.pointer (some ⟨p, 0, none⟩), .int .i64 c, .int .i64 s, .int .i64 t, .agg (resC r).toArray] Fr w [nqH p C ca cc m n lp ap rp]
  (fun v L => v = .tuple #[] ∧ L = [nqH p C ca cc m (n.reply c s t r) lp ap rp]) := by
 refine TF 19 Tryz.func120 Z yn tabOk Z Z ?_
 refine CS (CG (VG (VB (vs := resC r) Z fun rb => VG (VN ?_))))
 refine CG ?_
 refine zoa ?_
 refine VG (VL 0 (resC r) Z Z Z Z ?_)
 refine xma ?_
 refine VG (VQ 1 (ψ := fun v H => H = nqH p C ca cc m (n.reply c s t r) lp ap rp) Z (fun Fr w hF hs _ => nsendq_spec Fr w lp ap rp ho _ _) Z ybh ?_)
 rintro _ _ rfl
 refine xfu ?_
 exact xip
def NdM.rets (n : NdM) (ws : List RdM) : NdM := { n with out := n.out ++ ws.map fun x => (32 + x.f.client, replyF x.f.client x.f.seq x.f.try_ x.r) }
theorem rets_nil (n : NdM) : n.rets [] = n := by unfold NdM.rets; simp
theorem rets_snoc (n : NdM) (ws : List RdM) (x : RdM) : n.rets (ws ++ [x]) = (n.rets ws).reply x.f.client x.f.seq x.f.try_ x.r := by unfold NdM.rets NdM.reply NdM.send; simp
theorem NdOk.ack2 (k : NdOk C n) (f : FrameM) : NdOk C (n.ack2 f) := by
 have key : ∀ {s : Int}, 0 ≤ s → s ≤ n.log.length → ∀ (l h : Int) (b : Bool), NdOk C { n with limit := l, have_ := h, linked := b, sent := s } := fun h0 h1 l h b => ⟨k.ms, k.log, k.num, k.logc, k.ra, k.calls, k.d0, k.d1, h0, h1, k.w0, k.w1, k.rl, k.rc, k.rn0, k.rn1, k.rcl⟩
 unfold NdM.ack2 NdM.ack1 NdM.back
 split
 ·exact key k.s0 k.s1 _ _ _
 ·refine key (s := backV f.have_ n.log.length) ?_ ?_ _ _ _
  ·rw [backV_eq]; omega
  ·rw [backV_eq]; omega
theorem ack2_ch (n : NdM) (f : FrameM) : (n.ack2 f).ch = n.ch := by unfold NdM.ack2 NdM.ack1 NdM.back; split <;> rfl
theorem ack2_out (n : NdM) (f : FrameM) : (n.ack2 f).out = n.out := by unfold NdM.ack2 NdM.ack1 NdM.back; split <;> rfl
theorem NdOk.ack (k : NdOk C n) (i : Int) : NdOk C (n.ack i) := by
 unfold NdM.ack
 split
 ·rename_i h
  simp only [NdM.ackB, Bool.and_eq_true, decide_eq_true_eq] at h
  exact ⟨k.ms, k.log, k.num, k.logc, k.ra, k.calls, by have := k.d0; show 0 ≤ i; omega, h.2, k.s0, k.s1, k.w0, k.w1, k.rl, k.rc, k.rn0, k.rn1, k.rcl⟩
 ·exact k
theorem ntake_spec (ok : NdOk C n) (hm : RwIn memC 2 Fr w m.1 n.ch.ms) (from_ : Int) (f : FrameM) (m2 : MemP) (ms : List MemM) (hms : RwIn memC 2 Fr w m2.1 ms) (hmsl : ms.length ≤ 1000000) (now : Int) :
  Tri Tryz.prog 31 [.pointer (some ⟨p, 0, none⟩), .int .i64 from_, .agg (fgC f (m2.1, ms.length, m2.2)).toArray, .int .i64 now] Fr w [nm0 p C ca cc m n]
  (fun v L => sentN (n.take C from_ f ms now).out v L [nm0 p C ca cc (if n.enters from_ f ms then m2 else m) (n.take C from_ f ms now)]) := by
 refine TF 267 Tryz.func31 Z yn tabOk Z Z ?_
 refine CS (CG (VG (VB (vs := fgC f (m2.1, ms.length, m2.2)) Z fun fb => VG (VN ?_))))
 refine VC.opn 1 Z (HOpn.nm0 p C ca cc m n) ?_
 rintro ⟨y, on⟩ -
 show VC _ _ _ [pt p (nmC0 C ca cc m n y on) ndT, rlogH y.lp n.log, radH y.ap C ca cc n.adm, rrdsH y.rp n.rds, pt fb (fgC f (m2.1, ms.length, m2.2)) frT] _
 obtain ⟨n0, hn0⟩ : ∃ n0 : NdM, n0 = { n with out := [] } := ⟨_, rfl⟩
 have ok0 : NdOk C n0 := by rw [hn0]; exact ⟨ok.ms, ok.log, ok.num, ok.logc, ok.ra, ok.calls, ok.d0, ok.d1, ok.s0, ok.s1, ok.w0, ok.w1, ok.rl, ok.rc, ok.rn0, ok.rn1, ok.rcl⟩
 have hm0 : RwIn memC 2 Fr w m.1 n0.ch.ms := by rw [hn0]; exact hm
 refine zpw ?_
 refine VG (VO.st 0 (cs' := nmCs C ca cc m n0 ⟨y.lp, y.ap, y.rp, none, 0⟩) Z Z Z Z ycf (by rw [hn0]; rfl) Z ?_)
 refine xfu ?_
 show VC _ _ _ _ _
 refine CN (L' := [nmH p C ca cc m n0, pt fb (fgC f (m2.1, ms.length, m2.2)) frT]) (by rw [hn0]; exact Imp.ent (Imp.nm (n := { n with out := [] }) ⟨y.lp, y.ap, y.rp, none, 0⟩ (IP 0 Z (IP 0 Z (IP 0 Z (IP 0 Z (Imp.slNil Imp.refl))))))) ?_
 have ent0 : n0.enters from_ f ms ↔ n.enters from_ f ms := by rw [hn0]; exact Iff.rfl
 have hout0 : n0.out = [] := by rw [hn0]
 obtain ⟨nw, hnw⟩ : ∃ nw, nw = nowV now := ⟨_, rfl⟩
 have htk : n.take C from_ f ms now = n0.take0 C from_ f ms nw := by rw [NdM.take, hn0, hnw]
 rw [htk]
 clear htk hn0 ok hm
 obtain ⟨mm, hmm⟩ : ∃ mm, mm = if n.enters from_ f ms then m2 else m := ⟨_, rfl⟩
 rw [← hmm]
 have pb := place_bd n0
 have hms0 := ok0.ms
 refine xkn ?_
 refine xmq ?_
 rintro y1 -
 show VC _ _ _ [pt p (nmCs C ca cc m n0 y1) ndT, rlogH y1.lp n0.log, radH y1.ap C ca cc n0.adm, rrdsH y1.rp n0.rds, slH rsnT 30 y1.oa n0.out.length y1.oc (flat sndC n0.out), pt fb (fgC f (m2.1, ms.length, m2.2)) frT] _
 refine VC.meetS (σ := Unit) (fun _ => [(0, pV p), (1, .int .i64 from_), (3, .int .i64 nw), (6, pV fb), (9, .bool (n0.own from_ f))]) (fun _ => [pt p (nmCs C ca cc m n0 y1) ndT, rlogH y1.lp n0.log, radH y1.ap C ca cc n0.adm, rrdsH y1.rp n0.rds, slH rsnT 30 y1.oa n0.out.length y1.oc (flat sndC n0.out), pt fb (fgC f (m2.1, ms.length, m2.2)) frT]) (fun _ => True) ?_ ?_
 ·refine CD (ts 0 14 (.only 14 (ts 15 3 .nil))) yn yq ?_
  refine xfb ?_
  have fin : ∀ {E : Env} {d : Bool}, Vg.look E 0 = some (.pointer (some ⟨p, 0, none⟩)) → Vg.look E 1 = some (.int .i64 from_) → Vg.look E 3 = some (.int .i64 (nowV now)) → Vg.look E 6 = some (.pointer (some ⟨fb, 0, none⟩)) → Vg.look E 9 = some (.bool d) → d = n0.own from_ f →
    Sub [(0, pV p), (1, .int .i64 from_), (3, .int .i64 nw), (6, pV fb), (9, .bool (n0.own from_ f))] E := fun h0 h1 h2 h3 h4 h5 => SC h0 (SC h1 (SC (by rw [h2, hnw]) (SC h3 (SC (by rw [h4, h5]) (SN _)))))
  by_cases h1 : 0 ≤ from_
  rotate_left
  ·refine VA.go (AY 23 false Z (DF h1) ?_)
   refine VA.go (AY 33 false Z Z ?_)
   refine zpx ?_
   exact ⟨(), trivial, fin Z Z Z Z Z (by rw [NdM.own, DF h1]; rfl), ER⟩
  refine VA.go (AY 23 true Z (DT h1) ?_)
  refine xfb ?_
  by_cases h2 : f.epoch = n0.ch.epoch
  rotate_left
  ·have h2' : (f.epoch == n0.ch.epoch) = false := by rw [beq_eq_false_iff_ne]; exact h2
   refine VA.go (AY 33 false Z h2' ?_)
   refine zpx ?_
   exact ⟨(), trivial, fin Z Z Z Z Z (by rw [NdM.own, h2', Bool.false_and, Bool.and_false]), ER⟩
  have h2' : (f.epoch == n0.ch.epoch) = true := by rw [beq_iff_eq]; exact h2
  refine VA.go (AY 33 true Z h2' ?_)
  refine VA.go (AR (fun Fr w hF hs hS => nplace_spec Fr w (NmIn.pcs hS 0 Z Z Z Z) (RwIn.of hm0 hF hs) hms0) Z Z yr ?_)
  refine xfb ?_
  exact ⟨(), trivial, fin Z Z Z Z Z (by rw [NdM.own, DT h1, h2']; rfl), ER⟩
 rintro _ -
 refine xey ?_
 refine xmr ?_
 refine xet ?_
 refine VG (VV (fun Fr w hF hs hS => nat_spec Fr w (NmIn.pcs hS 0 Z Z Z Z) (RwIn.of hm0 hF hs) hms0 (n0.place - 1)) Z ?_)
 refine xmr ?_
 refine xds ?_
 refine VG (VV (fun Fr w hF hs hS => nat_spec Fr w (NmIn.pcs hS 0 Z Z Z Z) (RwIn.of hm0 hF hs) hms0 (n0.place + 1)) Z ?_)
 refine xfu ?_
 show VC _ _ _ _ _
 obtain ⟨T, hT⟩ : ∃ T, T = n0.take0 C from_ f ms nw := ⟨_, rfl⟩
 rw [← hT]
 refine CN (L' := [nmH p C ca cc m n0, pt fb (fgC f (m2.1, ms.length, m2.2)) frT]) (Imp.nmB Imp.refl).ent ?_
 refine CS ?_
 refine VC.meetS (σ := Unit) (fun _ => [(0, pV p)]) (fun _ => [nmH p C ca cc mm T]) (fun _ => True) ?_ ?_
 rotate_left
 ·rintro _ -
  refine VC.opn 0 Z (HOpn.nm p C ca cc mm T) ?_
  rintro y2 -
  show VC _ _ _ [pt p (nmCs C ca cc mm T y2) ndT, rlogH y2.lp T.log, radH y2.ap C ca cc T.adm, rrdsH y2.rp T.rds, slH rsnT 30 y2.oa T.out.length y2.oc (flat sndC T.out)] _
  refine xdj ?_
  exact CR (Ret.tmp 8 Z Z (Imp.ent (Imp.nm0 (n := T) (y2, T.out.length) (IP 0 Z (IP 0 Z (IP 0 Z (IP 0 Z (IP 0 Z Imp.nil))))))) ⟨y2.oa, y2.oc, Z, Z⟩)
 refine xgw ?_
 refine VG (VO.ld 1 Z Z Z Z (VG (VN ?_)))
 show VC _ _ _ _ _
 refine xje ?_
 have miss : ∀ {X : Cx}, T = n0 → f.kind ≠ 8 → Ent X [nmH p C ca cc m n0, pt fb (fgC f (m2.1, ms.length, m2.2)) frT] [nmH p C ca cc mm T] := fun {X} h1 h2 => by
  rw [h1, hmm, if_neg (fun h => h2 h.1)]; exact (IP 0 rfl Imp.nil).ent
 refine xkn ?_
 refine CE (i := f.kind) (j := 1) Z (fun k1 => ?_) (fun k1 => ?_)
 ·have hmm' : mm = m := by rw [hmm, if_neg (fun h => by have := h.1; omega)]
  have hT' : T = if f.client < 0 ∨ C.clients ≤ f.client then n0 else if readsM f.op = true then n0.read f nw else n0.update f nw := by rw [hT, NdM.take0, if_pos k1]
  have c6 := ok0.ra.c6; have ccl := ok0.ra.cl
  have ho0 : n0.out.length ≤ 9000000 := by rw [hout0]; show 0 ≤ 9000000; omega
  rw [hmm']
  refine xmq ?_
  rintro y3 -
  show VC _ _ _ [pt p (nmCs C ca cc m n0 y3) ndT, rlogH y3.lp n0.log, radH y3.ap C ca cc n0.adm, rrdsH y3.rp n0.rds, slH rsnT 30 y3.oa n0.out.length y3.oc (flat sndC n0.out), pt fb (fgC f (m2.1, ms.length, m2.2)) frT] _
  have early : ∀ {X : Cx} {E : Env} {fn : Func}, fn.results = #[.tmp 8] → Vg.look E 8 = some (.slice none 0 0) → (f.client < 0 ∨ C.clients ≤ f.client) → Ret X fn (fun v L => sentN T.out v L [nm0 p C ca cc m T]) E [pt p (nmCs C ca cc m n0 y3) ndT, rlogH y3.lp n0.log, radH y3.ap C ca cc n0.adm, rrdsH y3.rp n0.rds, slH rsnT 30 y3.oa n0.out.length y3.oc (flat sndC n0.out), pt fb (fgC f (m2.1, ms.length, m2.2)) frT] := fun {X E fn} h1 h2 h3 => by
   rw [hT', if_pos h3]
   exact Ret.tmp 8 h1 h2 (Imp.ent (Imp.nm0 (n := n0) (y3, n0.out.length) (IP 0 Z (IP 0 Z (IP 0 Z (IP 0 Z (Imp.slNil Imp.nil))))))) ⟨none, 0, by rw [hout0]; rfl, by rw [hout0]; rfl⟩
  refine CS (CS (CD (ts 0 13 .nil) yn yq ?_))
  refine xfb ?_
  by_cases h1 : f.client < 0
  ·refine VA.go (AY 55 true Z (DT h1) ?_)
   refine xfb ?_
   refine xdw ?_
   refine xex ?_
   exact CR (early Z Z (.inl h1))
  refine VA.go (AY 55 false Z (DF h1) ?_)
  refine xfb ?_
  refine CP (p := C.clients ≤ f.client) Z (fun h2 => ?_) (fun h2 => CK ?_)
  ·refine xex ?_
   exact CR (early Z Z (.inr h2))
  rw [if_neg (fun h => h.elim h1 h2)] at hT'
  refine xgw ?_
  refine VG (VL 5 f.op.cells Z Z Z Z ?_)
  refine VG (VV (fun Fr w hF hs hS => rreads_spec Fr w f.op) Z ?_)
  refine xfu ?_
  refine CC Z (fun h3 => ?_) (fun h3 => ?_)
  ·rw [if_pos h3] at hT'
   refine CG ?_
   refine VG (VL 5 (fgC f (m2.1, ms.length, m2.2)) Z Z Z Z ?_)
   refine xmt ?_
   refine VG (VQ 0 (ψ := fun v H => H = nmH p C ca cc m (n0.read f nw)) Z (fun Fr w hF hs _ => nread_spec Fr w ok0 (RwIn.of hm0 hF hs) ho0 (f, (m2.1, ms.length, m2.2)) nw ycm ycn) Z ybh ?_)
   rintro _ _ rfl
   refine xfu ?_
   exact xmu
  ·rw [if_neg yco] at hT'
   refine CG ?_
   refine VG (VL 5 (fgC f (m2.1, ms.length, m2.2)) Z Z Z Z ?_)
   refine xmt ?_
   refine VG (VQ 0 (ψ := fun v H => H = nmH p C ca cc m (n0.update f nw)) Z (fun Fr w hF hs _ => nupdate_spec Fr w ok0 (RwIn.of hm0 hF hs) ho0 (f, (m2.1, ms.length, m2.2)) nw ycm ycn) Z ybh ?_)
   rintro _ _ rfl
   refine xfu ?_
   exact xmu
 refine xkn ?_
 refine CE (i := f.kind) (j := 8) Z (fun k8 => ?_) (fun k8 => ?_)
 ·have hT' : T = if n0.enters from_ f ms then n0.enter C (frCh f ms) else n0 := by rw [hT, NdM.take0, if_neg k1, if_pos k8]
  refine xmq ?_
  rintro y3 -
  show VC _ _ _ [pt p (nmCs C ca cc m n0 y3) ndT, rlogH y3.lp n0.log, radH y3.ap C ca cc n0.adm, rrdsH y3.rp n0.rds, slH rsnT 30 y3.oa n0.out.length y3.oc (flat sndC n0.out), pt fb (fgC f (m2.1, ms.length, m2.2)) frT] _
  have no : ∀ {X : Cx}, ¬ n0.enters from_ f ms → Ent X [pt p (nmCs C ca cc m n0 y3) ndT, rlogH y3.lp n0.log, radH y3.ap C ca cc n0.adm, rrdsH y3.rp n0.rds, slH rsnT 30 y3.oa n0.out.length y3.oc (flat sndC n0.out), pt fb (fgC f (m2.1, ms.length, m2.2)) frT] [nmH p C ca cc mm T] := fun {X} h => by
   rw [hT', if_neg h, hmm, if_neg (fun h2 => h (ent0.2 h2))]; exact (Imp.nmB Imp.nil).ent
  refine CS ?_
  refine VC.meetS (σ := Bool) (fun d => [(0, pV p), (6, pV fb), (96, .bool d)]) (fun _ => [pt p (nmCs C ca cc m n0 y3) ndT, rlogH y3.lp n0.log, radH y3.ap C ca cc n0.adm, rrdsH y3.rp n0.rds, slH rsnT 30 y3.oa n0.out.length y3.oc (flat sndC n0.out), pt fb (fgC f (m2.1, ms.length, m2.2)) frT]) (fun d => d = true ↔ n0.enters from_ f ms) ?_ ?_
  ·refine CD (ts 0 16 (.only 16 (ts 17 2 .nil))) yn yq ?_
   refine xfb ?_
   by_cases h1 : from_ = 16
   rotate_left
   ·refine VA.go (AY 80 false Z ycj ?_)
    refine VA.go (AY 91 false Z Z ?_)
    refine zpx ?_
    exact ⟨false, ⟨fun h => (by cases h), fun h => absurd h.2.1 h1⟩, sbZ, ER⟩
   refine VA.go (AY 80 true Z (by rw [beq_iff_eq]; exact h1) ?_)
   refine xfb ?_
   by_cases h2 : n0.ch.epoch < f.cepoch
   rotate_left
   ·refine VA.go (AY 91 false Z (DF h2) ?_)
    refine zpx ?_
    exact ⟨false, ⟨fun h => (by cases h), fun h => absurd h.2.2.1 h2⟩, sbZ, ER⟩
   refine VA.go (AY 91 true Z (DT h2) ?_)
   refine VA.go (VA.ldA 5 ((frCh f ms).cells m2.1 m2.2) Z Z Z Z Z ?_)
   refine VA.go (AR (fun Fr w hF hs hS => rchk_spec Fr w (c := frCh f ms) (RwIn.of hms hF hs) hmsl) Z Z yr ?_)
   refine xem ?_
   exact ⟨_, ⟨fun h => ⟨k8, h1, h2, by simpa using h⟩, fun h => by simpa using h.2.2.2⟩, SC Z (SC Z (SC Z (SN _))), ER⟩
  rintro d hd
  refine CC Z (fun h1 => ?_) (fun h1 => CK ?_)
  rotate_left
  ·exact ⟨(), trivial, sbZ, no (fun h => by rw [hd.2 h] at h1; cases h1)⟩
  have he := hd.1 h1
  have hcl : (frCh f ms).ms.length ≤ 1000 := by
   have := he.2.2.2
   unfold chE at this
   split at this
   ·rename_i h
    unfold chOk headOk at h
    simp only [Bool.and_eq_true, decide_eq_true_eq] at h
    have := h.1.2.2.2
    show ms.length ≤ 1000
    have h6 : ms.length ≤ 6 := this
    omega
   ·cases this
  refine CG ?_
  refine xey ?_
  refine VG (VL 5 ((frCh f ms).cells m2.1 m2.2) Z Z Z Z ?_)
  refine xmt ?_
  refine VG (VQ 0 (ψ := fun v H => H = nmH p C ca cc m2 (n0.enter C (frCh f ms))) Z (fun Fr w hF hs _ => nenter_spec Fr w ok0 (by rw [hout0]; show 0 ≤ _; omega) (c := frCh f ms) (m2 := m2) (RwIn.of hms hF hs) hcl) Z ybh ?_)
  rintro _ _ rfl
  refine xfu ?_
  exact ⟨(), trivial, sbZ, by rw [hT', if_pos he, hmm, if_pos (ent0.1 he)]; exact ER⟩
 have hmm' : mm = m := by rw [hmm, if_neg (fun h => k8 h.1)]
 rw [hmm'] at miss ⊢
 refine xkn ?_
 refine CE (i := f.kind) (j := 4) Z (fun k4 => ?_) (fun k4 => ?_)
 ·have hT' : T = if n0.own from_ f = true ∧ from_ = n0.ahead then n0.forward C f.entry else n0 := by rw [hT, NdM.take0, if_neg k1, if_neg k8, if_pos k4]
  have hl96 := ok0.log; have hd0 := ok0.d0; have hd1 := ok0.d1; have hw1 := ok0.w1
  by_cases h1 : n0.own from_ f = true
  rotate_left
  ·refine xkn ?_
   refine VG (VY 104 false Z ybi ?_)
   refine zpy ?_
   exact xmv
  refine xkn ?_
  refine VG (VY 104 true Z h1 ?_)
  refine xkn ?_
  refine CE (i := from_) (j := n0.ahead) Z (fun h2 => ?_) (fun h2 => CK ?_)
  rotate_left
  ·exact xmw
  rw [if_pos ⟨h1, h2⟩] at hT'
  refine CS ?_
  refine VC.meetS (σ := Unit) (fun _ => [(0, pV p)]) (fun _ => [nmH p C ca cc m (n0.fwd1 C f.entry)]) (fun _ => True) ?_ ?_
  rotate_left
  ·rintro _ -
   refine CG ?_
   refine VG (VQ 0 (ψ := fun v H => H = nmH p C ca cc m (n0.forward C f.entry)) Z (fun Fr w hF hs _ => ngreet_spec Fr w (ok0.fwd1 f.entry) (by rw [fwd1_ch]; exact RwIn.of hm0 hF hs) (by have := fwd1_out ok0 f.entry; rw [hout0] at this; simp at this; omega)) Z ybh ?_)
   rintro _ _ rfl
   refine xfu ?_
   exact xmu
  refine xmq ?_
  rintro y3 -
  show VC _ _ _ [pt p (nmCs C ca cc m n0 y3) ndT, rlogH y3.lp n0.log, radH y3.ap C ca cc n0.adm, rrdsH y3.rp n0.rds, slH rsnT 30 y3.oa n0.out.length y3.oc (flat sndC n0.out), pt fb (fgC f (m2.1, ms.length, m2.2)) frT] _
  refine CS ?_
  refine VC.meetS (σ := Bool) (fun d => [(0, pV p), (6, pV fb), (135, .bool d)]) (fun _ => [pt p (nmCs C ca cc m n0 y3) ndT, rlogH y3.lp n0.log, radH y3.ap C ca cc n0.adm, rrdsH y3.rp n0.rds, slH rsnT 30 y3.oa n0.out.length y3.oc (flat sndC n0.out), pt fb (fgC f (m2.1, ms.length, m2.2)) frT]) (fun d => d = true ↔ n0.fwdOk C f.entry) ?_ ?_
  ·refine CD (ts 0 4 (.only 4 (ts 5 4 (ts 10 4 (ts 15 5 (.only 9 (.take 14 (ts 20 4 (.only 24 (ts 25 2 .nil)))))))))) yn yq ?_
   refine xfb ?_
   refine xmf ?_
   refine xdq ?_
   refine xfb ?_
   by_cases h3 : f.entry.index = n0.log.length + 1
   rotate_left
   ·refine VA.go (AY 116 false Z ybr ?_)
    refine xhw ?_
    refine VA.go (AY 131 false Z Z ?_)
    refine zpx ?_
    exact ⟨false, ⟨fun h => (by cases h), fun h => absurd h.1 h3⟩, sbZ, ER⟩
   refine VA.go (AY 116 true Z (by rw [beq_iff_eq]; exact h3) ?_)
   refine xfb ?_
   refine xmf ?_
   refine VA.go (VA.sub' Z Z Z ye ye ?_)
   refine xfb ?_
   by_cases h4 : (n0.log.length : Int) - n0.done < C.window
   rotate_left
   ·refine VA.go (AY 131 false Z (DF h4) ?_)
    refine zpx ?_
    exact ⟨false, ⟨fun h => (by cases h), fun h => absurd h.2.1 h4⟩, sbZ, ER⟩
   refine VA.go (AY 131 true Z (DT h4) ?_)
   refine xfb ?_
   refine xmf ?_
   refine xem ?_
   exact ⟨_, ⟨fun h => ⟨h3, h4, by have := of_decide_eq_true h; omega⟩, fun h => DT (by have := h.2.2; omega)⟩, SC Z (SC Z (SC Z (SN _))), ER⟩
  rintro d hd
  refine CC Z (fun h3 => ?_) (fun h3 => CK ?_)
  rotate_left
  ·exact ⟨(), trivial, sbZ, by rw [NdM.fwd1, if_neg (fun h => by rw [hd.2 h.1] at h3; cases h3)]; exact (Imp.nmB Imp.nil).ent⟩
  have hfo := hd.1 h3
  obtain ⟨N1, hN1⟩ : ∃ N1 : NdM, N1 = { n0 with log := logApp n0.log f.entry } := ⟨_, rfl⟩
  refine CS ?_
  refine VC.meetS (σ := Unit) (fun _ => [(0, pV p), (13, .int .i64 (logErr n0.log f.entry))]) (fun _ => [nmH p C ca cc m N1]) (fun _ => True) ?_ ?_
  ·refine CD (ts 0 6 (.two 6 10 (ts 7 3 (.only 10 (.only 11 (.take 12 .nil)))) (.only 6 (ts 7 3 (.only 11 (.take 12 .nil)))))) yn yq ?_
   refine xfb ?_
   refine VA.go (VA.ldA 5 (entC f.entry) Z Z Z Z Z ?_)
   refine VA.go (VA.two Z Z Z Z Z (OpT.callAt (ψ := fun v H => (∃ r, v = .tuple #[.agg (resC r).toArray, .int .i64 (logErr n0.log f.entry)]) ∧ H = rlogH y3.lp (logApp n0.log f.entry)) 1 Z (fun Fr w hF hs hS => rlapp_spec Fr w y3.lp n0.log ok0.num ok0.log f.entry) Z yz) Z Z Z (OpT.alloc Z) ?_ ?_ ?_ ?_)
   ·rintro _ _ ⟨H, ⟨⟨r, rfl⟩, rfl⟩, rfl⟩
    exact yr
   ·rintro _ _ ⟨q, rfl, rfl⟩
    exact yr
   ·rintro _ _ ⟨H, ⟨⟨r, rfl⟩, rfl⟩, rfl⟩
    refine VA.go (AO (OpT.alloc Z) Z ?_ ?_)
    ·rintro _ _ ⟨q, rfl, rfl⟩
     exact yr
    rintro _ _ ⟨q, rfl, rfl⟩
    refine xml ?_
    refine xdr ?_
    exact xmx
   ·rintro _ _ ⟨q, rfl, rfl⟩
    refine VA.go (AQ 2 (ψ := fun v H => (∃ r, v = .tuple #[.agg (resC r).toArray, .int .i64 (logErr n0.log f.entry)]) ∧ H = rlogH y3.lp (logApp n0.log f.entry)) Z (fun Fr w hF hs _ => rlapp_spec Fr w y3.lp n0.log ok0.num ok0.log f.entry) Z Z yz (fun v H h => by rw [h.2]; exact yr) ?_)
    rintro _ _ ⟨⟨r, rfl⟩, rfl⟩
    refine xml ?_
    refine xdr ?_
    exact xmx
  rintro _ -
  refine xmy ?_
  refine CE (i := logErr n0.log f.entry) (j := 0) Z (fun h4 => ?_) (fun h4 => CK ?_)
  rotate_left
  ·exact ⟨(), trivial, sbZ, by rw [NdM.fwd1, if_neg (fun h => h4 h.2), hN1, logApp, if_neg h4]; exact ER⟩
  have eN1 : N1 = { n0 with log := n0.log ++ [f.entry] } := by rw [hN1, logApp, if_pos h4]
  have ok1 : NdOk C N1 := by rw [eN1]; exact ok0.logApp (by have := hfo.2.2; omega) h4
  have hch1 : N1.ch = n0.ch := by rw [eN1]
  have hou1 : N1.out = [] := by rw [eN1]; exact hout0
  have efw : n0.fwd1 C f.entry = N1.finish.becomes := by rw [NdM.fwd1, if_pos ⟨hfo, h4⟩, eN1]
  have hfo1 := finish_out ok1
  rw [hou1] at hfo1
  refine xgw ?_
  refine VG (VQ 0 (ψ := fun v H => H = nmH p C ca cc m N1.finish) Z (fun Fr w hF hs _ => nfinish_spec Fr w ok1 (by rw [hch1]; exact RwIn.of hm0 hF hs) (by rw [hou1]; show 0 ≤ _; omega)) Z ybh ?_)
  rintro _ _ rfl
  refine xfu ?_
  show VC _ _ _ _ _
  refine CG ?_
  refine VG (VQ 0 (ψ := fun v H => H = nmH p C ca cc m N1.finish.becomes) Z (fun Fr w hF hs _ => nbecomes_spec Fr w (by rw [finish_ch, hch1]; exact ok0.ms) (by rw [finish_ch, hch1]; exact RwIn.of hm0 hF hs) (by simp at hfo1; omega)) Z ybh ?_)
  rintro _ _ rfl
  refine xfu ?_
  exact ⟨(), trivial, sbZ, by rw [efw]; exact ER⟩
 refine xkn ?_
 refine CE (i := f.kind) (j := 5) Z (fun k5 => ?_) (fun k5 => ?_)
 ·have hT' : T = if n0.own from_ f = true ∧ from_ = n0.next then n0.ackN C f else n0 := by rw [hT, NdM.take0, if_neg k1, if_neg k8, if_neg k4, if_pos k5]
  by_cases h1 : n0.own from_ f = true
  rotate_left
  ·refine xkn ?_
   refine VG (VY 157 false Z ybi ?_)
   refine zpy ?_
   exact xmv
  refine xkn ?_
  refine VG (VY 157 true Z h1 ?_)
  refine xkn ?_
  refine CE (i := from_) (j := n0.next) Z (fun h2 => ?_) (fun h2 => CK ?_)
  rotate_left
  ·exact xmw
  rw [if_pos ⟨h1, h2⟩] at hT'
  refine CS ?_
  refine VC.meetS (σ := Unit) (fun _ => [(0, pV p), (6, pV fb)]) (fun _ => [nmH p C ca cc m (n0.ack1 f), pt fb (fgC f (m2.1, ms.length, m2.2)) frT]) (fun _ => True) ?_ ?_
  ·refine xmq ?_
   rintro y3 -
   show VC _ _ _ [pt p (nmCs C ca cc m n0 y3) ndT, rlogH y3.lp n0.log, radH y3.ap C ca cc n0.adm, rrdsH y3.rp n0.rds, slH rsnT 30 y3.oa n0.out.length y3.oc (flat sndC n0.out), pt fb (fgC f (m2.1, ms.length, m2.2)) frT] _
   refine xey ?_
   refine CC Z (fun h3 => ?_) (fun h3 => ?_)
   ·have e : n0.ack1 f = { n0 with have_ := mxV n0.have_ f.have_ } := by rw [NdM.ack1, if_pos h3]
    refine xjc ?_
    refine xfb ?_
    refine VA.go (VA.st 0 (cs' := nmCs C ca cc m { n0 with have_ := mxV n0.have_ f.have_ } y3) Z Z Z Z Z yaf Z Z yr (VA.go (AN ?_)))
    exact ⟨(), trivial, sbZ, by rw [e]; exact Imp.ent (Imp.nmB (n := { n0 with have_ := mxV n0.have_ f.have_ }) (y := y3) Imp.refl)⟩
   ·have e : n0.ack1 f = NdM.back { n0 with linked := true, have_ := f.have_ } := by rw [NdM.ack1, if_neg yco]
    refine CS (CD (ts 0 6 (.only 6 (ts 7 2 (.only 9 .nil)))) yn yq ?_)
    refine xfb ?_
    refine VA.go (VA.st 0 (cs' := nmCs C ca cc m { n0 with linked := true } y3) Z Z Z Z Z (by show 27 < 29; omega) Z Z yr ?_)
    refine xfb ?_
    refine VA.go (VA.st 0 (cs' := nmCs C ca cc m { n0 with linked := true, have_ := f.have_ } y3) Z Z Z Z Z yaf Z Z yr (VA.go (AN ?_)))
    show VC _ _ _ _ _
    refine CN (L' := [nmH p C ca cc m { n0 with linked := true, have_ := f.have_ }, pt fb (fgC f (m2.1, ms.length, m2.2)) frT]) (Imp.nmB (n := { n0 with linked := true, have_ := f.have_ }) (y := y3) Imp.refl).ent ?_
    refine CG ?_
    refine VG (VQ 0 (ψ := fun v H => H = nmH p C ca cc m (NdM.back { n0 with linked := true, have_ := f.have_ })) Z (fun Fr w hF hs _ => nback_spec Fr w) Z ybh ?_)
    rintro _ _ rfl
    refine xfu ?_
    exact ⟨(), trivial, sbZ, by rw [e]; exact ER⟩
  rintro _ -
  have oka : NdOk C (n0.ack2 f) := ok0.ack2 f
  have hcha : (n0.ack2 f).ch = n0.ch := ack2_ch n0 f
  have houa : (n0.ack2 f).out = [] := by rw [ack2_out]; exact hout0
  refine VC.opn 0 Z (HOpn.nm p C ca cc m (n0.ack1 f)) ?_
  rintro y3 -
  show VC _ _ _ [pt p (nmCs C ca cc m (n0.ack1 f) y3) ndT, rlogH y3.lp (n0.ack1 f).log, radH y3.ap C ca cc (n0.ack1 f).adm, rrdsH y3.rp (n0.ack1 f).rds, slH rsnT 30 y3.oa (n0.ack1 f).out.length y3.oc (flat sndC (n0.ack1 f).out), pt fb (fgC f (m2.1, ms.length, m2.2)) frT] _
  refine CS (CD (ts 0 11 (.only 11 .nil)) yn yq ?_)
  refine xfb ?_
  refine VA.go (VA.st 0 (cs' := nmCs C ca cc m (n0.ack2 f) y3) Z Z Z Z Z (by show 23 < 29; omega) Z Z yr (VA.go (AN ?_)))
  show VC _ _ _ _ _
  refine CN (L' := [nmH p C ca cc m (n0.ack2 f), pt fb (fgC f (m2.1, ms.length, m2.2)) frT]) (Imp.nmB (n := n0.ack2 f) (y := y3) Imp.refl).ent ?_
  refine xgw ?_
  refine xkn ?_
  refine xgu ?_
  refine VG (VQ 0 (ψ := fun v H => v = .bool ((n0.ack2 f).ackB f.index) ∧ H = nmH p C ca cc m ((n0.ack2 f).ack f.index)) Z (fun Fr w hF hs _ => nack_spec Fr w f.index) Z yz ?_)
  rintro _ _ ⟨rfl, rfl⟩
  refine xfu ?_
  show VC _ _ _ _ _
  refine CC Z (fun h3 => ?_) (fun h3 => CK ?_)
  rotate_left
  ·have e : T = (n0.ack2 f).ack f.index := by rw [hT', NdM.ackN, if_neg yco, NdM.ack, if_neg yco]
   exact ⟨(), trivial, sbZ, by rw [e]; exact (IP 0 Z Imp.nil).ent⟩
  have e : T = ((n0.ack2 f).ack f.index).greet C := by rw [hT', NdM.ackN, if_pos h3]
  have okb : NdOk C ((n0.ack2 f).ack f.index) := oka.ack f.index
  have hchb : ((n0.ack2 f).ack f.index).ch = n0.ch := by rw [NdM.ack, if_pos h3]; exact hcha
  have houb : ((n0.ack2 f).ack f.index).out = [] := by rw [NdM.ack, if_pos h3]; exact houa
  refine CG ?_
  refine VG (VQ 0 (ψ := fun v H => H = nmH p C ca cc m (((n0.ack2 f).ack f.index).greet C)) Z (fun Fr w hF hs _ => ngreet_spec Fr w okb (by rw [hchb]; exact RwIn.of hm0 hF hs) (by rw [houb]; show 0 ≤ _; omega)) Z ybh ?_)
  rintro _ _ rfl
  refine xfu ?_
  exact ⟨(), trivial, sbZ, by rw [e]; exact (IP 0 Z Imp.nil).ent⟩
 refine xkn ?_
 refine CE (i := f.kind) (j := 6) Z (fun k6 => ?_) (fun k6 => ?_)
 ·have hT' : T = if n0.own from_ f = true ∧ from_ = n0.ahead then NdM.becomes { n0 with bs := f.index } else n0 := by rw [hT, NdM.take0, if_neg k1, if_neg k8, if_neg k4, if_neg k5, if_pos k6]
  by_cases h1 : n0.own from_ f = true
  rotate_left
  ·refine xkn ?_
   refine VG (VY 206 false Z ybi ?_)
   refine zpy ?_
   exact xmv
  refine xkn ?_
  refine VG (VY 206 true Z h1 ?_)
  refine xkn ?_
  refine CE (i := from_) (j := n0.ahead) Z (fun h2 => ?_) (fun h2 => CK ?_)
  rotate_left
  ·exact xmw
  rw [if_pos ⟨h1, h2⟩] at hT'
  refine xmq ?_
  rintro y3 -
  show VC _ _ _ [pt p (nmCs C ca cc m n0 y3) ndT, rlogH y3.lp n0.log, radH y3.ap C ca cc n0.adm, rrdsH y3.rp n0.rds, slH rsnT 30 y3.oa n0.out.length y3.oc (flat sndC n0.out), pt fb (fgC f (m2.1, ms.length, m2.2)) frT] _
  refine xgw ?_
  refine xey ?_
  refine VG (VO.st 0 (cs' := nmCs C ca cc m { n0 with bs := f.index } y3) Z Z Z Z (by show 19 < 29; omega) Z Z ?_)
  refine xfu ?_
  show VC _ _ _ _ _
  refine CN (L' := [nmH p C ca cc m { n0 with bs := f.index }]) (Imp.nmB (n := { n0 with bs := f.index }) (y := y3) Imp.nil).ent ?_
  refine CG ?_
  refine VG (VQ 0 (ψ := fun v H => H = nmH p C ca cc m (NdM.becomes { n0 with bs := f.index })) Z (fun Fr w hF hs _ => nbecomes_spec Fr w (n := { n0 with bs := f.index }) hms0 (RwIn.of hm0 hF hs) (by show n0.out.length ≤ _; rw [hout0]; show 0 ≤ _; omega)) Z ybh ?_)
  rintro _ _ rfl
  refine xfu ?_
  exact xmu
 refine xkn ?_
 refine CE (i := f.kind) (j := 10) Z (fun k10 => ?_) (fun k10 => ?_)
 ·have hT' : T = if n0.own from_ f = true ∧ from_ = 16 then n0.sure f.index else n0 := by rw [hT, NdM.take0, if_neg k1, if_neg k8, if_neg k4, if_neg k5, if_neg k6, if_pos k10]
  by_cases h1 : n0.own from_ f = true
  rotate_left
  ·refine xkn ?_
   refine VG (VY 221 false Z ybi ?_)
   refine zpy ?_
   exact xmv
  refine xkn ?_
  refine VG (VY 221 true Z h1 ?_)
  refine xkn ?_
  refine CE (i := from_) (j := 16) Z (fun h2 => ?_) (fun h2 => CK ?_)
  rotate_left
  ·exact xmw
  rw [if_pos ⟨h1, h2⟩] at hT'
  have hrl := ok0.rl
  refine xmq ?_
  rintro y3 -
  show VC _ _ _ [pt p (nmCs C ca cc m n0 y3) ndT, rlogH y3.lp n0.log, radH y3.ap C ca cc n0.adm, rrdsH y3.rp n0.rds, slH rsnT 30 y3.oa n0.out.length y3.oc (flat sndC n0.out), pt fb (fgC f (m2.1, ms.length, m2.2)) frT] _
  refine CS ?_
  refine VC.meetS (σ := RL RdR × RL RdR) (fun s => [(0, pV p), (14, .slice s.1.addr s.1.xs.length s.1.cap)]) (fun s => [nqH p C ca cc m n0 y3.lp y3.ap y3.rp, s.1.h rrdT, rlogH y3.lp n0.log, radH y3.ap C ca cc n0.adm, pt y3.rp [.int .i64 n0.rds.cap, .slice s.2.addr s.2.xs.length s.2.cap, .int .i64 n0.rds.last] rrdsT]) (fun s => s.1.Ok rdC 34 ∧ s.2.Ok rdC 34 ∧ s.1.h rrdT = s.2.h rrdT ∧ s.1.xs.map Prod.fst = n0.rds.l.take (rsure f.index n0.rds) ∧ s.2.xs.map Prod.fst = n0.rds.l.drop (rsure f.index n0.rds)) ?_ ?_
  ·refine CD (ts 0 6 (.only 6 (.take 7 .nil))) yn yq ?_
   refine xfb ?_
   refine VA.ent (L' := [rrdsH y3.rp n0.rds, pt p (nmCs C ca cc m n0 y3) ndT, rlogH y3.lp n0.log, radH y3.ap C ca cc n0.adm, slH rsnT 30 y3.oa n0.out.length y3.oc (flat sndC n0.out)]) (pkZ [3, 0, 0, 0, 0]).ent ?_
   refine VA.go (AO (OC (Lc := [rrdsH y3.rp n0.rds]) Z (.refl _) (fun Fr w hF hs hS => rrsure_spec Fr w ye f.index)) Z ?_ ?_)
   ·rintro _ _ ⟨_, ⟨r, r2, hok, hok2, hrr, hrx, hrx2, rfl, rfl⟩, rfl⟩
    exact yr
   rintro _ _ ⟨_, ⟨r, r2, hok, hok2, hrr, hrx, hrx2, rfl, rfl⟩, rfl⟩
   refine xem ?_
   exact ⟨(r, r2), ⟨hok, hok2, hrr, hrx, hrx2⟩, sbZ, Imp.ent (Imp.nq (n := n0) (y3.oa, y3.oc) (IP 2 Z (IP 4 Z (IP 1 (by rw [hrr]; rfl) (pkZ [1, 1, 0])))))⟩
  rintro ⟨r, r2⟩ ⟨hok, hok2, hrr, hrx, hrx2⟩
  dsimp only at hok hok2 hrr hrx hrx2 ⊢
  obtain ⟨ws, hws⟩ : ∃ ws, ws = n0.rds.l.take (rsure f.index n0.rds) := ⟨_, rfl⟩
  rw [← hws] at hrx
  have hwl : r.xs.length = ws.length := by rw [← hrx, List.length_map]
  have hwl2 : ws.length ≤ 16 := by rw [hws, List.length_take]; omega
  have wcl : ∀ x ∈ ws, 0 ≤ x.f.client ∧ x.f.client ≤ 1000 := fun x hx => by
   rw [hws] at hx
   exact ok0.rcl x (List.mem_of_mem_take hx)
  have hT2 : T = { n0.rets ws with rds := { n0.rds with l := n0.rds.l.drop (rsure f.index n0.rds) } } := by rw [hT', hws]; rfl
  refine xdz ?_
  show VC _ _ _ _ _
  refine xje ?_
  refine VC.loop (σ := Nat) (fun i => [(0, pV p), (14, .slice r.addr r.xs.length r.cap), (15, .int .i64 i)]) (fun i => [nqH p C ca cc m (n0.rets (ws.take i)) y3.lp y3.ap y3.rp, r.h rrdT, rlogH y3.lp n0.log, radH y3.ap C ca cc n0.adm, pt y3.rp [.int .i64 n0.rds.cap, .slice r2.addr r2.xs.length r2.cap, .int .i64 n0.rds.last] rrdsT]) (fun i => i ≤ r.xs.length) (fun i => r.xs.length - i) 0
   (Nat.zero_le _) sbZ (by show Ent _ _ (nqH p C ca cc m (n0.rets []) y3.lp y3.ap y3.rp :: _); rw [rets_nil]; exact ER) ?_
  rintro i hi
  refine xkn ?_
  refine CP (p := (i : Int) < (r.xs.length : Int)) Z (fun h1 => CK ?_) (fun h1 => CX ?_)
  rotate_left
  ·have : i = ws.length := by omega
   subst this
   rw [List.take_length, hrr]
   exact ⟨(), trivial, sbZ, by rw [hT2]; exact Nd.Ent.opn 0 Z (HOpn.nq p C ca cc m (n0.rets ws) y3.lp y3.ap y3.rp) fun x _ => Imp.ent (Imp.nm (n := { n0.rets ws with rds := { n0.rds with l := n0.rds.l.drop (rsure f.index n0.rds) } }) ⟨y3.lp, y3.ap, y3.rp, x.1, x.2⟩ (IP 0 Z (IP 2 Z (IP 2 Z (Imp.rrds r2 ⟨hok2, hrx2⟩ (pkZ [2, 1, 0]))))))⟩
  have h1 : i < r.xs.length := by omega
  obtain ⟨x, hx⟩ : ∃ x, r.xs[i]? = some x := ⟨_, GE h1⟩
  have hxl : ws[i]? = some x.1 := by rw [← hrx, List.getElem?_map, hx]; rfl
  have htk : ws.take (i + 1) = ws.take i ++ [x.1] := by rw [List.take_add_one, hxl]; rfl
  have hxc := wcl x.1 (ME hxl)
  obtain ⟨tb, tof, htb, hta, hrd⟩ := sub_row hok hx
  obtain ⟨tb2, tof2, htb2, hta2, hrd2⟩ := RL.Ok.ld (t := rrdT) hok hx (rdC_len x)
  obtain ⟨rfl, rfl⟩ : tb2 = tb ∧ tof2 = tof := by rw [hta] at hta2; cases hta2; exact ⟨rfl, rfl⟩
  rw [hta]
  refine CS (VC.block (CD (ts 0 24 (.only 24 .nil)) yn yq ?_))
  refine xlx ?_
  refine xlv ?_
  refine xlx ?_
  refine VA.go (VA.load Z Z Z ((hrd2 1 Z).2 _ 3 _ Z Z) ?_)
  refine xlx ?_
  refine xlv ?_
  refine xlx ?_
  refine VA.go (VA.load Z Z Z ((hrd2 1 Z).2 _ 4 _ Z Z) ?_)
  refine xlx ?_
  refine xlv ?_
  refine xlx ?_
  refine VA.go (VA.load Z Z Z ((hrd2 1 Z).2 _ 5 _ Z Z) ?_)
  refine xlx ?_
  refine xlv ?_
  refine xlx ?_
  refine VA.go (VA.load Z Z Z ((hrd 1 Z).2 _ Z Z) ?_)
  refine VA.go (AQ 0 (ψ := fun v H => H = nqH p C ca cc m ((n0.rets (ws.take i)).reply x.1.f.client x.1.f.seq x.1.f.try_ x.1.r) y3.lp y3.ap y3.rp) Z (fun Fr w hF hs _ => nreplyq_spec Fr w y3.lp y3.ap y3.rp (by show (n0.out ++ _).length ≤ _; rw [hout0]; simp; omega) _ _ _ ye ye _) Z Z ybh (fun v H h => by rw [h]; exact yr) ?_)
  rintro _ _ rfl
  refine xem ?_
  rw [← hta, ← rets_snoc, ← htk]
  show VC _ _ _ _ _
  refine zoc ?_
  exact xmp
 have hT' : T = n0 := by rw [hT, NdM.take0, if_neg k1, if_neg k8, if_neg k4, if_neg k5, if_neg k6, if_neg k10]
 refine CK ?_
 exact ⟨(), trivial, sbZ, miss hT' k8⟩
end
end Nd
namespace Nd
open Go Vg T Api Kv Ch Lg Rd Win Adm Sched Conf Rep Ref16 Rk
variable {C : ConfM} {n : NdM}
def NdM.servesB (C : ConfM) (n : NdM) : Bool := (n.place == 0) && (n.whole && (!n.drains && (decide ((n.log.length : Int) - n.done < C.window) && decide ((n.log.length : Int) < 4096))))
theorem few_exp {S : SchM} {B : Int} (h : few S B) (now : Int) : few (S.expM now) B := fun x hx => by
 obtain ⟨y, hy, rfl⟩ := List.mem_map.1 hx
 exact h y hy
structure NdW (C : ConfM) (B : Int) (n : NdM) : Prop where
 ok : NdOk C n
 wf : n.adm.sch.Wf
 few : few n.adm.sch B
theorem few_mono {S : SchM} {B D : Int} (h : few S B) (hBD : B ≤ D) : few S D := fun c hc => by have := h c hc; omega
end Nd
namespace Adm
open Go Vg Api Sched Conf
theorem has_iff (A : AdmM) (k : Int) : A.has k = true ↔ 0 ≤ k ∧ k < A.clients := by simp [AdmM.has]
theorem mark_setMark {A : AdmM} (h : A.Wf) {k j : Int} (hk : 0 ≤ k ∧ k < 6) (hj : 0 ≤ j) (m : MkM) : (A.setMark k m).mark j = if j = k then m else A.mark j := by
 obtain ⟨n, rfl⟩ := Int.eq_ofNat_of_zero_le hk.1
 obtain ⟨i, rfl⟩ := Int.eq_ofNat_of_zero_le hj
 have hn : n < A.marks.length := by rw [h.marks]; omega
 simp only [AdmM.mark, AdmM.setMark, Int.toNat_natCast]
 by_cases e : i = n
 ·subst e; simp [List.getElem?_set_self hn]
 ·rw [if_neg ye, List.getElem?_set_ne ye]
theorem wt_setWt {A : AdmM} (h : A.Wf) {k j : Int} (hk : 0 ≤ k ∧ k < 6) (hj : 0 ≤ j) (m : Int) : (A.setWt k m).wt j = if j = k then m else A.wt j := by
 obtain ⟨n, rfl⟩ := Int.eq_ofNat_of_zero_le hk.1
 obtain ⟨i, rfl⟩ := Int.eq_ofNat_of_zero_le hj
 have hn : n < A.waits.length := by rw [h.waits]; omega
 simp only [AdmM.wt, AdmM.setWt, Int.toNat_natCast]
 by_cases e : i = n
 ·subst e; simp [List.getElem?_set_self hn]
 ·rw [if_neg ye, List.getElem?_set_ne ye]
theorem offer_in {A : AdmM} {f : FrameM} {now : Int} (h0 : (A.offerM f now).1 = 0) : A.may f = true ∧ A.barred f.client f.seq f.try_ = false ∧ A.wt f.client = 0 ∧ ¬ f.deadline < now ∧ (A.sch.pushM f).1 = 0 ∧ (A.offerM f now).2 = (A.withSch (A.sch.pushM f).2).setWt f.client f.seq := by
 unfold AdmM.offerM at h0 ⊢
 by_cases hm : A.may f = true
 ·rw [if_pos hm] at h0 ⊢
  by_cases hc : (A.waitM f now).1 ≠ 0 ∧ (A.waitM f now).1 ≠ 6
  ·rw [if_pos hc] at h0; exact absurd h0 hc.1
  ·rw [if_neg hc] at h0 ⊢
   unfold AdmM.waitM at h0 ⊢
   by_cases hb : A.barred f.client f.seq f.try_ = true
   ·rw [if_pos hb] at h0; cases h0
   rw [if_neg hb] at h0 ⊢
   by_cases hs : A.wt f.client = f.seq
   ·rw [if_pos hs] at h0; cases h0
   rw [if_neg hs] at h0 ⊢
   by_cases hz : A.wt f.client ≠ 0
   ·rw [if_pos hz] at h0; cases h0
   rw [if_neg hz] at h0 ⊢
   by_cases hd : f.deadline < now
   ·rw [if_pos hd] at h0; cases h0
   rw [if_neg hd] at h0 ⊢
   by_cases hp : (A.sch.pushM f).1 ≠ 0
   ·rw [if_pos hp] at h0; cases h0
   rw [if_neg hp]
   exact ⟨hm, by simpa using hb, by simpa using hz, hd, by simpa using hp, Z⟩
 ·rw [if_neg hm] at h0; cases h0
theorem push_same {S : SchM} {f : FrameM} (h : (S.pushM f).1 ≠ 0) : (S.pushM f).2 = S := by
 unfold SchM.pushM at h ⊢
 split
 ·rfl
 ·rename_i c hc
  rw [hc] at h
  dsimp only at h
  split
  ·rfl
  ·rename_i h1
   rw [if_neg h1] at h
   split
   ·rename_i h2; rw [if_pos h2] at h; exact absurd rfl h
   ·rfl
theorem offer_not {A : AdmM} {f : FrameM} (now : Int) (h0 : (A.offerM f now).1 ≠ 0) : (A.offerM f now).2.sch = A.sch ∧ (A.offerM f now).2.waits = A.waits := by
 have key : (A.waitM f now).1 ≠ 0 → (A.waitM f now).2.sch = A.sch ∧ (A.waitM f now).2.waits = A.waits := by
  unfold AdmM.waitM
  intro h
  repeat' split
  all_goals first
   | exact ⟨rfl, rfl⟩
   | (rename_i hp; exact ⟨push_same hp, rfl⟩)
   | (simp_all)
 unfold AdmM.offerM at h0 ⊢
 by_cases hm : A.may f = true
 ·rw [if_pos hm] at h0 ⊢
  by_cases hc : (A.waitM f now).1 ≠ 0 ∧ (A.waitM f now).1 ≠ 6
  ·rw [if_pos hc]
   have := key hc.1
   refine ⟨(barM_sch _ _ _ _).trans this.1, ?_⟩
   rw [← this.2]
   show (AdmM.barM _ _ _ _).2.waits = _
   unfold AdmM.barM
   split
   ·exact barF_waits _ _ _ _
   ·rfl
  ·rw [if_neg hc] at h0 ⊢
   exact key h0
 ·rw [if_neg hm]; exact ⟨rfl, rfl⟩
end Adm
namespace Adm
open Go Vg Api Sched Conf
theorem nodup_same {α β : Type} {g : α → β} : ∀ {l : List α}, (l.map g).Nodup → ∀ {a b : α}, a ∈ l → b ∈ l → g a = g b → a = b
 | [], _, a, _, ha, _, _ => by simp at ha
 | x :: l, h, a, b, ha, hb, e => by
  rw [List.map_cons, List.nodup_cons] at h
  rcases List.mem_cons.1 ha with rfl | ha2
  ·rcases List.mem_cons.1 hb with rfl | hb2
   ·rfl
   ·exact absurd (List.mem_map.2 ⟨b, hb2, e.symm⟩ : _ ∈ l.map g) h.1
  ·rcases List.mem_cons.1 hb with rfl | hb2
   ·exact absurd (List.mem_map.2 ⟨a, ha2, e⟩ : _ ∈ l.map g) h.1
   ·exact nodup_same h.2 ha2 hb2 e
theorem flat_snoc {α : Type} {f : α} : ∀ {l : List (List α)} {k : Nat} {q : List α}, l[k]? = some q → (l.set k (q ++ [f])).flatten.Perm (f :: l.flatten)
 | x :: l, 0, q, h => by
  obtain rfl : x = q := by simpa using h
  rw [List.set_cons_zero, List.flatten_cons, List.flatten_cons, List.append_assoc]
  exact List.perm_middle
 | x :: l, k + 1, q, h => by
  rw [List.set_cons_succ, List.flatten_cons, List.flatten_cons]
  exact ((flat_snoc (l := l) (k := k) yc).append_left x).trans List.perm_middle
 | [], _, _, h => by simp at h
theorem flat_head {α : Type} {f : α} : ∀ {l : List (List α)} {k : Nat} {q : List α}, l[k]? = some (f :: q) → l.flatten.Perm (f :: (l.set k q).flatten)
 | x :: l, 0, q, h => by
  obtain rfl : x = f :: q := by simpa using h
  rw [List.set_cons_zero, List.flatten_cons, List.flatten_cons]
  exact .refl _
 | x :: l, k + 1, q, h => by
  rw [List.set_cons_succ, List.flatten_cons, List.flatten_cons]
  exact ((flat_head (l := l) (k := k) yc).append_left x).trans List.perm_middle
 | [], _, _, h => by simp at h
def AdmM.all (A : AdmM) : List FrameM := A.sch.qs.flatten
structure SInv (nc : Int) (m cap : Nat) (A : AdmM) : Prop where
 wf : A.Wf
 clients : A.clients = nc
 len : A.sch.cls.length = m
 cap : A.sch.cap = cap
 may : ∀ f ∈ A.all, A.may f = true
 uniq : (A.all.map FrameM.client).Nodup
 wt : ∀ f ∈ A.all, A.wt f.client = f.seq
 back : ∀ k, 0 ≤ k → k < nc → A.wt k ≠ 0 → ∃ f ∈ A.all, f.client = k
theorem may_congr {A B : AdmM} (h1 : B.clients = A.clients) (h2 : B.sch.cls.length = A.sch.cls.length) (f : FrameM) : B.may f = A.may f := by
 simp only [AdmM.may, AdmM.has, h1, h2]
theorem SInv.range {nc : Int} {m cap : Nat} {A : AdmM} (h : SInv nc m cap A) {f : FrameM} (hf : f ∈ A.all) : 0 ≤ f.client ∧ f.client < nc := by
 obtain ⟨h1, _, _⟩ := may_client (h.may f hf)
 have := (has_iff _ _).1 h1
 rw [h.clients] at this; exact this
theorem SInv.seq {nc : Int} {m cap : Nat} {A : AdmM} (h : SInv nc m cap A) {f : FrameM} (hf : f ∈ A.all) : f.seq ≠ 0 := by
 obtain ⟨_, h2, _⟩ := may_client (h.may f hf)
 simp only [numM, Bool.and_eq_true, decide_eq_true_eq] at h2
 omega
theorem SInv.six {nc : Int} {m cap : Nat} {A : AdmM} (h : SInv nc m cap A) : nc ≤ 6 := by have := h.wf.c1; rw [h.clients] at this; exact this
theorem SInv.same {nc : Int} {m cap : Nat} {A B : AdmM} (h : SInv nc m cap A) (hw : B.Wf) (hc : B.clients = A.clients) (hs : B.sch = A.sch) (hwt : B.waits = A.waits) : SInv nc m cap B := by
 have hall : B.all = A.all := by rw [AdmM.all, AdmM.all, hs]
 have hwt2 : ∀ k, B.wt k = A.wt k := fun k => by rw [AdmM.wt, AdmM.wt, hwt]
 refine ⟨hw, hc.trans h.clients, by rw [hs]; exact h.len, by rw [hs]; exact h.cap, fun f hf => ?_, by rw [hall]; exact h.uniq, fun f hf => ?_, fun k h1 h2 h3 => ?_⟩
 ·rw [may_congr (A := A) hc (by rw [hs])]; exact h.may f (hall ▸ hf)
 ·rw [hwt2]; exact h.wt f (hall ▸ hf)
 ·rw [hwt2] at h3; rw [hall]; exact h.back k h1 h2 h3
theorem SInv.offer {nc : Int} {m cap : Nat} {A : AdmM} (h : SInv nc m cap A) (f : FrameM) (now : Int) : SInv nc m cap (A.offerM f now).2 := by
 by_cases h0 : (A.offerM f now).1 = 0
 ·obtain ⟨hm, hb, hz, hd, hp, e⟩ := offer_in h0
  obtain ⟨h1, h2, h3⟩ := may_client hm
  obtain ⟨⟨k, hk, hlt⟩, ho⟩ := may_cls hm
  have hr := (has_iff _ _).1 h1
  have h6 := h.six
  have hr6 : 0 ≤ f.client ∧ f.client < 6 := ⟨hr.1, by have := h.clients; omega⟩
  have hq : A.sch.qs[k]? = some (A.sch.cls[k].q) := by simp [SchM.qs, GE hlt]
  obtain ⟨p1, p2, p3⟩ := push_qs hk hq ho
  have hlt2 : (A.sch.cls[k].q).length < A.sch.cap := by
   apply Decidable.byContradiction
   intro hn; rw [if_neg hn] at p1; rw [p1] at hp; cases hp
  rw [if_pos hlt2] at p2
  have hperm : ((A.offerM f now).2).all.Perm (f :: A.all) := by
   rw [e]; show (A.sch.pushM f).2.qs.flatten.Perm _
   rw [p2]; exact flat_snoc hq
  have hwf := offer_wf h.wf f now
  have hcl := offer_clients A f now
  have hlen : (A.offerM f now).2.sch.cls.length = A.sch.cls.length := by rw [e]; exact push_len A.sch f
  have hwt : ∀ j, 0 ≤ j → (A.offerM f now).2.wt j = if j = f.client then f.seq else A.wt j := fun j hj => by
   rw [e, wt_setWt (h.wf.withSch (push_wf h.wf.sch f)) hr6 hj]; rfl
  have hnew : ∀ g ∈ A.all, g.client ≠ f.client := fun g hg e2 => by
   have := h.wt g hg
   rw [e2, hz] at this
   exact h.seq hg this.symm
  refine ⟨hwf, hcl.trans h.clients, hlen.trans h.len, by rw [e]; exact p3.trans h.cap, fun g hg => ?_, ?_, fun g hg => ?_, fun j hj hj2 hj3 => ?_⟩
  ·rw [may_congr (A := A) hcl hlen]
   rcases List.mem_cons.1 (hperm.mem_iff.1 hg) with rfl | hg
   ·exact hm
   ·exact h.may g hg
  ·rw [(hperm.map FrameM.client).nodup_iff, List.map_cons, List.nodup_cons]
   refine ⟨fun hmem => ?_, h.uniq⟩
   obtain ⟨g, hg, e2⟩ := List.mem_map.1 hmem
   exact hnew g hg e2
  ·rcases List.mem_cons.1 (hperm.mem_iff.1 hg) with rfl | hg
   ·rw [hwt _ hr.1, if_pos rfl]
   ·rw [hwt _ (h.range hg).1, if_neg (hnew g hg)]; exact h.wt g hg
  ·rw [hwt j hj] at hj3
   by_cases ej : j = f.client
   ·exact ⟨f, hperm.mem_iff.2 ya, ej.symm⟩
   ·rw [if_neg ej] at hj3
    obtain ⟨g, hg, e2⟩ := h.back j hj hj2 hj3
    exact ⟨g, hperm.mem_iff.2 yj, e2⟩
 ·obtain ⟨h1, h2⟩ := offer_not now h0
  exact h.same (offer_wf h.wf f now) (offer_clients A f now) h1 h2
theorem expF_wt : ∀ (l : List FrameM) {A : AdmM}, A.Wf → (∀ f ∈ l, 0 ≤ f.client ∧ f.client < 6) → ∀ {j : Int}, 0 ≤ j → (A.expF l).wt j = if (l.any fun f => f.client == j) = true then 0 else A.wt j
 | [], A, _, _, j, _ => by simp [AdmM.expF]
 | f :: l, A, h, hf, j, hj => by
  have ih := expF_wt l (h.out f) (fun g hg => hf g yj) hj
  have e1 : (A.out f).wt j = if j = f.client then 0 else A.wt j := by
   rw [← wt_setWt h (hf f ya) hj 0]
   simp only [AdmM.wt, AdmM.out, barF_waits]
  show (AdmM.expF (A.out f) l).wt j = _
  rw [ih, e1, List.any_cons]
  by_cases e : f.client = j
  ·subst e; simp
  ·have : (f.client == j) = false := by simpa using e
   rw [this, Bool.false_or, if_neg (show ¬ j = f.client from fun x => e x.symm)]
theorem all_exp {A : AdmM} (h : A.Wf) (now : Int) : (A.expireM now).all = A.all.filter (stay now) := by
 rw [AdmM.all, (expire_wf h now).2.2, exp_qs, AdmM.all, List.filter_flatten]
theorem gone_all (A : AdmM) (now : Int) : A.sch.goneM now = A.all.filter (gone now) := by
 rw [gone_qs, AdmM.all, List.filter_flatten, List.flatMap_def]
theorem SInv.expire {nc : Int} {m cap : Nat} {A : AdmM} (h : SInv nc m cap A) (now : Int) : SInv nc m cap (A.expireM now) := by
 obtain ⟨hwf, hcl, hs⟩ := expire_wf h.wf now
 have h6 := h.six
 have hall := all_exp h.wf now
 have hlen : (A.expireM now).sch.cls.length = A.sch.cls.length := by rw [hs]; exact exp_len _ _
 have hg6 : ∀ f ∈ A.sch.goneM now, 0 ≤ f.client ∧ f.client < 6 := fun f hf => by
  rw [gone_all] at hf
  have := h.range (List.mem_filter.1 hf).1
  omega
 have hwt : ∀ j, 0 ≤ j → (A.expireM now).wt j = if ((A.sch.goneM now).any fun f => f.client == j) = true then 0 else A.wt j := fun j hj =>
  expF_wt _ (h.wf.withSch (exp_wf h.wf.sch now)) hg6 hj
 refine ⟨hwf, hcl.trans h.clients, hlen.trans h.len, by rw [hs]; exact h.cap, fun f hf => ?_, ?_, fun f hf => ?_, fun k hk hk2 hk3 => ?_⟩
 ·rw [may_congr (A := A) hcl hlen]
  rw [hall] at hf
  exact h.may f (List.mem_filter.1 hf).1
 ·rw [hall]
  exact h.uniq.sublist (List.filter_sublist.map _)
 ·rw [hall] at hf
  obtain ⟨hf1, hf2⟩ := List.mem_filter.1 hf
  rw [hwt _ (h.range hf1).1, if_neg]
  ·exact h.wt f hf1
  ·intro ha
   obtain ⟨g, hg, e⟩ := List.any_eq_true.1 ha
   rw [gone_all] at hg
   obtain ⟨hg1, hg2⟩ := List.mem_filter.1 hg
   have : g = f := nodup_same h.uniq hg1 hf1 (eq_of_beq e)
   subst this
   simp [stay, hg2] at hf2
 ·rw [hwt k hk] at hk3
  split at hk3
  ·exact absurd Z hk3
  ·rename_i hn
   obtain ⟨f, hf, e⟩ := h.back k hk hk2 hk3
   refine ⟨f, ?_, e⟩
   rw [hall]
   refine List.mem_filter.2 ⟨hf, ?_⟩
   cases hgf : gone now f with
   | false => simp [stay, hgf]
   | true => exact absurd (List.any_eq_true.2 ⟨f, by rw [gone_all]; exact List.mem_filter.2 ⟨hf, hgf⟩, by simp [e]⟩) hn
theorem SInv.next {nc : Int} {m cap : Nat} {A : AdmM} (h : SInv nc m cap A) (now : Int) : SInv nc m cap (A.nextM now) := by
 have h := h.expire now
 unfold AdmM.nextM
 generalize A.expireM now = B at h ⊢
 have h6 := h.six
 cases ho : (popV B.sch).2.1 with
 | false =>
  obtain ⟨_, e⟩ := popV_no h.wf.sch ho
  rw [if_neg ya]
  exact h.same (h.wf.withSch (popV_wf h.wf.sch)) Z e rfl
 | true =>
  rw [if_pos rfl]
  obtain ⟨k, q, hk, hq⟩ := popV_ok h.wf.sch ho
  have hcap : (popV B.sch).2.2.cap = B.sch.cap := by
   unfold popV at ho ⊢
   cases hp : B.sch.popM with
   | none => rfl
   | some r => obtain ⟨f, S1⟩ := r; obtain ⟨_, _, _, _, hc, _⟩ := popM_some h.wf.sch hp; exact hc
  generalize (popV B.sch).1 = g at hk ⊢
  have hperm : B.all.Perm (g :: (popV B.sch).2.2.qs.flatten) := by rw [hq]; exact flat_head hk
  have hg : g ∈ B.all := hperm.mem_iff.2 ya
  have hgr := h.range hg
  have hg6 : 0 ≤ g.client ∧ g.client < 6 := by omega
  have hlen := popV_len h.wf.sch
  have hW : ((B.withSch (popV B.sch).2.2).setWt g.client 0).all = (popV B.sch).2.2.qs.flatten := rfl
  have hu := (hperm.map FrameM.client).nodup_iff.1 h.uniq
  rw [List.map_cons, List.nodup_cons] at hu
  have hwf := (h.wf.withSch (popV_wf h.wf.sch))
  have hwt : ∀ j, 0 ≤ j → ((B.withSch (popV B.sch).2.2).setWt g.client 0).wt j = if j = g.client then 0 else B.wt j := fun j hj => by
   rw [wt_setWt hwf hg6 hj]; rfl
  refine ⟨hwf.setWt _ _, h.clients, hlen.trans h.len, hcap.trans h.cap, fun f hf => ?_, hu.2, fun f hf => ?_, fun j hj hj2 hj3 => ?_⟩
  ·rw [may_congr (A := B) (B := (B.withSch (popV B.sch).2.2).setWt g.client 0) rfl hlen]
   exact h.may f (hperm.mem_iff.2 (List.mem_cons_of_mem _ hf))
  ·have hf2 : f ∈ B.all := hperm.mem_iff.2 (List.mem_cons_of_mem _ hf)
   rw [hwt _ (h.range hf2).1, if_neg (fun e => hu.1 (List.mem_map.2 ⟨f, hf, e⟩))]
   exact h.wt f hf2
  ·rw [hwt j hj] at hj3
   split at hj3
   ·exact absurd Z hj3
   ·rename_i hn
    obtain ⟨f, hf, e⟩ := h.back j hj hj2 hj3
    rcases List.mem_cons.1 (hperm.mem_iff.1 hf) with rfl | hf
    ·exact absurd e.symm hn
    ·exact ⟨f, hf, e⟩
theorem SInv.start (c : ConfM) : SInv (fitM c).clients (fitM c).qs.length (fitM c).queue.toNat (newA (fitM c)) := by
 have hall : (newA (fitM c)).all = [] := by
  have : ∀ l : List Int, (l.map fun _ => ([] : List FrameM)).flatten = [] := fun l => by induction l <;> simp_all
  show ((SchM.new (fitM c).qs (fitM c).queue).cls.map ClsM.q).flatten = []
  simp only [SchM.new, List.map_map]
  exact this _
 refine ⟨newA_wf (fit_idem c), Z, by simp [newA, SchM.new], Z, fun f hf => ?_, ?_, fun f hf => ?_, fun k h1 h2 h3 => ?_⟩
 ·rw [hall] at hf; simp at hf
 ·rw [hall]; simp
 ·rw [hall] at hf; simp at hf
 ·exfalso; apply h3
  simp only [AdmM.wt, newA]
  cases hk : (List.replicate 6 (0 : Int))[k.toNat]? with
  | none => rfl
  | some v => exact List.eq_of_mem_replicate (ME hk)
end Adm
namespace Rep
open Go Vg T Api Kv Ch Lg Rd Win Adm Sched Conf
def SI (A : AdmM) : Prop := ∃ nc m cap, SInv nc m cap A
theorem SI.offer {A : AdmM} (h : SI A) (f : FrameM) (now : Int) : SI (A.offerM f now).2 := by
 obtain ⟨nc, m, cap, h⟩ := h; exact ⟨nc, m, cap, h.offer f now⟩
theorem SI.next {A : AdmM} (h : SI A) (now : Int) : SI (A.nextM now) := by
 obtain ⟨nc, m, cap, h⟩ := h; exact ⟨nc, m, cap, h.next now⟩
theorem barM_waits (A : AdmM) (k s t : Int) : (A.barM k s t).2.waits = A.waits := by
 unfold AdmM.barM; split; exact barF_waits _ _ _ _; rfl
theorem SI.bar {A : AdmM} (h : SI A) (k s t : Int) : SI (A.barM k s t).2 := by
 obtain ⟨nc, m, cap, h⟩ := h
 exact ⟨nc, m, cap, h.same (h.wf.barM _ _ _) (barM_clients A k s t) (barM_sch A k s t) (barM_waits A k s t)⟩
def LogOk (es : List EntryM) : Prop := ∀ (k : Nat) (e : EntryM), es[k]? = some e → logErr (es.take k) e = 0
theorem LogOk.snoc {es : List EntryM} (h : LogOk es) {e : EntryM} (he : logErr es e = 0) : LogOk (es ++ [e]) := by
 intro k x hx
 by_cases hk : k < es.length
 ·rw [List.getElem?_append_left hk] at hx
  rw [List.take_append_of_le_length ye]
  exact h k x hx
 ·by_cases hk2 : k = es.length
  ·subst hk2
   rw [List.getElem?_append_right (NR _), Nat.sub_self] at hx
   obtain rfl : e = x := by simpa using hx
   rw [List.take_append_of_le_length (NR _), List.take_length]; exact he
  ·rw [List.getElem?_eq_none ybu] at hx; cases hx
theorem LogOk.idx {es : List EntryM} (h : LogOk es) {k : Nat} {e : EntryM} (he : es[k]? = some e) : e.index = k + 1 := by
 have hk := (List.getElem?_eq_some_iff.1 he).1
 have := (logErr_ok (h k e he)).2.2.1
 rw [List.length_take, Nat.min_eq_left ye] at this
 exact this
theorem upd_form (R : RepM) (f : FrameM) (now : Int) : ∃ A, (updateR R f now).1 = { R with adm := A } ∧ (A = R.adm ∨ A = (R.adm.offerM f now).2 ∨ ∃ k s t, A = (R.adm.barM k s t).2 ∨ A = ((R.adm.offerM f now).2.barM k s t).2) ∧ ∀ m ∈ (updateR R f now).2, m.1 = 32 + f.client := by
 have hj := judge_adm R f now
 unfold updateR
 generalize judgeM R f now = J at hj ⊢
 repeat' split
 ·exact xmz
 ·exact ⟨_, Z, hj.elim .inl fun h => .inr (.inl h), fun m hm => absurd hm List.not_mem_nil⟩
 ·exact ⟨_, Z, .inr (.inr ⟨f.client, f.seq, f.try_, hj.elim (fun h => .inl (by rw [h])) fun h => .inr (by rw [h])⟩), fun m hm => by rw [List.mem_singleton.1 hm]⟩
 ·exact xmz
end Rep
namespace Nd
open Go Vg Api Adm Sched Conf Rep Ref16
structure AEq (D A : AdmM) : Prop where
 sch : D.sch = A.sch
 cl : D.clients = A.clients
 marks : D.marks = A.marks
variable {D A : AdmM}
theorem AEq.has (h : AEq D A) (k : Int) : D.has k = A.has k := by unfold AdmM.has; rw [h.cl]
theorem AEq.mark (h : AEq D A) (k : Int) : D.mark k = A.mark k := by unfold AdmM.mark; rw [h.marks]
theorem AEq.may (h : AEq D A) (f : FrameM) : D.may f = A.may f := may_congr h.cl (by rw [h.sch]) f
theorem AEq.barred (h : AEq D A) (k s t : Int) : D.barred k s t = A.barred k s t := by unfold AdmM.barred; rw [h.has, h.mark]
theorem AEq.withSch (h : AEq D A) (S : SchM) : AEq (D.withSch S) (A.withSch S) := ⟨rfl, h.cl, h.marks⟩
theorem AEq.barF (h : AEq D A) (k s t : Int) : AEq (D.barF k s t) (A.barF k s t) := by
 unfold AdmM.barF
 rw [h.mark]
 split
 ·exact ⟨h.sch, h.cl, by show D.marks.set _ _ = A.marks.set _ _; rw [h.marks]⟩
 ·exact h
theorem AEq.barM (h : AEq D A) (k s t : Int) : AEq (D.barM k s t).2 (A.barM k s t).2 := by
 unfold AdmM.barM
 rw [h.has]
 split
 ·exact h.barF k s t
 ·exact h
theorem AEq.setWt (h : AEq D A) (k s : Int) : AEq D (A.setWt k s) := ⟨h.sch, h.cl, h.marks⟩
theorem AEq.expF : ∀ (l : List FrameM) {D A : AdmM}, AEq D A → (∀ f ∈ l, okC A.clients f) → AEq (barAll D l) (A.expF l)
 | [], D, A, h, _ => h
 | f :: l, D, A, h, hl => by
  obtain ⟨h1, h2, h3⟩ := hl f ya
  have e : (D.barM f.client f.seq f.try_).2 = D.barF f.client f.seq f.try_ := by
   unfold AdmM.barM
   rw [if_pos (by rw [h.has, (has_iff _ _).2 h1, h2, h3]; rfl)]
  have h4 : AEq (D.barM f.client f.seq f.try_).2 (A.out f) := by
   rw [e]; exact (h.setWt f.client 0).barF _ _ _
  exact AEq.expF l h4 (fun g hg => by rw [out_clients]; exact hl g yj)
theorem AEq.exp (h : AEq D A) (hC : A.Calls) (now : Int) : AEq (raExp D now) (A.expireM now) := by
 unfold raExp AdmM.expireM
 rw [h.sch]
 exact AEq.expF _ (h.withSch _) (fun f hf => gone_ok hC now f hf)
theorem rwaits_of {nc : Int} {m cap : Nat} (s : SInv nc m cap A) {k : Int} (hk : 0 ≤ k ∧ k < nc) : rwaits A.sch k = (A.wt k, !(A.wt k == 0)) := by
 unfold rwaits
 have hall : A.sch.waitM = A.all := by unfold SchM.waitM AdmM.all SchM.qs; rw [List.flatMap_def]
 rw [hall]
 cases hf : A.all.find? (fun f => f.client == k) with
 | none =>
  have hno := List.find?_eq_none.1 hf
  have : A.wt k = 0 := Decidable.byContradiction fun hz => by
   obtain ⟨g, hg, hgk⟩ := s.back k hk.1 hk.2 hz
   exact hno g hg (by rw [hgk]; exact beq_self_eq_true k)
  rw [this]; rfl
 | some g =>
  have hg := List.mem_of_find?_eq_some hf
  have hgk : g.client = k := by have := List.find?_some hf; simpa using this
  have h1 := s.wt g hg
  have h2 := s.seq hg
  rw [hgk] at h1
  have h3 : (A.wt k == 0) = false := by rw [beq_eq_false_iff_ne, h1]; exact h2
  rw [h3, h1]; rfl
theorem AEq.wait (h : AEq D A) (s : SI A) {f : FrameM} (hm : A.may f = true) (now : Int) : (raW D f now).1 = (A.waitM f now).1 ∧ AEq (raW D f now).2 (A.waitM f now).2 := by
 obtain ⟨nc, m, cap, s⟩ := s
 obtain ⟨h1, h2, h3⟩ := may_client hm
 have hr := (has_iff _ _).1 h1
 rw [s.clients] at hr
 have hw := rwaits_of s hr
 have hs : f.seq ≠ 0 := by
  intro e; rw [e] at h2; simp [numM] at h2
 unfold raW AdmM.waitM
 rw [h.barred, h.sch, hw]
 by_cases hb : A.barred f.client f.seq f.try_ = true
 ·rw [if_pos hb, if_pos hb]; exact ⟨rfl, h⟩
 rw [if_neg hb, if_neg hb]
 by_cases hz : A.wt f.client = 0
 ·have e1 : ¬ ((A.wt f.client, !(A.wt f.client == 0)).2 = true ∧ (A.wt f.client, !(A.wt f.client == 0)).1 = f.seq) := fun e => hs (by rw [← e.2]; exact hz)
  have e2 : ¬ (A.wt f.client, !(A.wt f.client == 0)).2 = true := by simp [hz]
  have e3 : ¬ A.wt f.client = f.seq := fun e => hs (by rw [← e]; exact hz)
  have e4 : ¬ A.wt f.client ≠ 0 := fun e => e hz
  rw [if_neg e1, if_neg e2, if_neg e3, if_neg e4]
  split
  ·exact ⟨rfl, h⟩
  split
  ·exact ⟨rfl, h.withSch _⟩
  ·exact ⟨rfl, (h.withSch _).setWt _ _⟩
 ·have e2 : (A.wt f.client, !(A.wt f.client == 0)).2 = true := by simp [hz]
  by_cases hq : A.wt f.client = f.seq
  ·rw [if_pos ⟨e2, hq⟩, if_pos hq]; exact ⟨rfl, h⟩
  ·rw [if_neg (fun e => hq e.2), if_pos e2, if_neg hq, if_pos hz]; exact ⟨rfl, h⟩
theorem AEq.offer (h : AEq D A) (s : SI A) (f : FrameM) (now : Int) : (raOffer D f now).1 = (A.offerM f now).1 ∧ AEq (raOffer D f now).2 (A.offerM f now).2 := by
 unfold raOffer AdmM.offerM
 rw [h.may]
 by_cases hm : A.may f = true
 ·rw [if_pos hm, if_pos hm]
  obtain ⟨h1, h2⟩ := h.wait s hm now
  rw [h1]
  split
  ·exact ⟨rfl, h2.barM _ _ _⟩
  ·exact ⟨h1, h2⟩
 ·rw [if_neg hm, if_neg hm]; exact ⟨rfl, h⟩
theorem SI_deadline {A : AdmM} (s : SI A) {f : FrameM} (hf : f ∈ A.all) : f.deadline ≤ 1099511627776 := by
 obtain ⟨nc, m, cap, s⟩ := s
 have := s.may f hf
 simp only [AdmM.may, Bool.and_eq_true, decide_eq_true_eq] at this
 exact this.1.1.2
theorem cls_all {A : AdmM} {c : ClsM} (hc : c ∈ A.sch.cls) {f : FrameM} (hf : f ∈ c.q) : f ∈ A.all := List.mem_flatten.2 ⟨c.q, List.mem_map.2 ⟨c, hc, rfl⟩, hf⟩
theorem exp_big {A : AdmM} (s : SI A) {t u : Int} (ht : 1099511627776 < t) (hu : 1099511627776 < u) : A.sch.expM t = A.sch.expM u ∧ A.sch.goneM t = A.sch.goneM u := by
 have e : ∀ f ∈ A.all, gone t f = gone u f := fun f hf => by
  have := SI_deadline s hf
  unfold gone
  rw [DT ye, DT ye]
 have e1 : ∀ c ∈ A.sch.cls, c.q.filter (gone t) = c.q.filter (gone u) := fun c hc => List.filter_congr fun f hf => e f (cls_all hc hf)
 have e2 : ∀ c ∈ A.sch.cls, c.q.filter (stay t) = c.q.filter (stay u) := fun c hc => List.filter_congr fun f hf => by unfold stay; rw [e f (cls_all hc hf)]
 constructor
 ·unfold SchM.expM
  congr 1
  exact List.map_congr_left fun c hc => by unfold ClsM.expC; rw [e2 c hc]
 ·unfold SchM.goneM
  rw [List.flatMap_def, List.flatMap_def]
  exact congrArg List.flatten (List.map_congr_left fun c hc => e1 c hc)
theorem AEq.big (h : AEq D A) (s : SI A) (hC : A.Calls) : AEq (raExp D bigT) (A.expireM maxI) ∧ D.sch.goneM bigT = A.sch.goneM maxI := by
 obtain ⟨e1, e2⟩ := exp_big (t := bigT) (u := maxI) s yy yy
 refine ⟨?_, by rw [h.sch, e2]⟩
 have := h.exp hC maxI
 unfold raExp at this ⊢
 rw [h.sch] at this ⊢
 rw [e1, e2]; exact this
theorem SI_exp {A : AdmM} (s : SI A) (now : Int) : SI (A.expireM now) := by obtain ⟨nc, m, cap, s⟩ := s; exact ⟨nc, m, cap, s.expire now⟩
end Nd
namespace Nd
open Go Vg Api Kv Ch Lg Rd Win Adm Sched Conf Rep Ref16 Rk
structure AG (A B : AdmM) : Prop where
 cl : B.clients = A.clients
 qs : B.sch.cls.map ClsM.quantum = A.sch.cls.map ClsM.quantum
 si : SI B
theorem AG.refl {A : AdmM} (s : SI A) : AG A A := ⟨rfl, rfl, s⟩
theorem push_quanta (S : SchM) (f : FrameM) : (S.pushM f).2.cls.map ClsM.quantum = S.cls.map ClsM.quantum := by
 unfold SchM.pushM
 cases hc : S.at_ f.cls with
 | none => rfl
 | some c =>
  dsimp only
  split
  ·rfl
  split
  ·unfold SchM.at_ at hc
   split at hc
   ·exact quanta_set hc rfl
   ·cases hc
  ·rfl
theorem pop_quanta {S : SchM} (wf : S.Wf) : (popV S).2.2.cls.map ClsM.quantum = S.cls.map ClsM.quantum := by
 unfold popV
 cases hp : S.popM with
 | none => rfl
 | some r =>
  obtain ⟨f, S1⟩ := r
  obtain ⟨B, hB⟩ : ∃ B : Int, few S B := by
   have key : ∀ l : List ClsM, ∃ B : Int, ∀ c ∈ l, c.served ≤ B := by
    intro l
    induction l with
    | nil => exact ⟨0, fun c hc => by cases hc⟩
    | cons x l ih =>
     obtain ⟨B, hB⟩ := ih
     refine ⟨max B x.served, fun c hc => ?_⟩
     rcases List.mem_cons.1 hc with rfl | hc
     ·omega
     ·have := hB c hc; omega
   exact key S.cls
  exact (popM_keeps wf Z hB hp).1
theorem AG.bar {A B : AdmM} (h : AG A B) (k s t : Int) : AG A (B.barM k s t).2 := by
 obtain ⟨h1, h2, h3⟩ := barM_same B k s t
 exact ⟨h1.trans h.cl, by rw [h3]; exact h.qs, Rep.SI.bar h.si k s t⟩
theorem AG.offer {A : AdmM} (s : SI A) (f : FrameM) (now : Int) : AG A (A.offerM f now).2 := by
 refine ⟨offer_clients A f now, ?_, Rep.SI.offer s f now⟩
 by_cases h0 : (A.offerM f now).1 = 0
 ·obtain ⟨hm, hb, hz, hd, hp, e⟩ := offer_in h0
  rw [e]; exact push_quanta A.sch f
 ·rw [(offer_not now h0).1]
theorem AG.exp {A : AdmM} (wf : A.Wf) (s : SI A) (now : Int) : AG A (A.expireM now) := by
 obtain ⟨h1, h2, h3⟩ := expire_wf wf now
 refine ⟨h2, ?_, SI_exp s now⟩
 rw [h3]
 show (A.sch.cls.map (ClsM.expC now)).map ClsM.quantum = _
 rw [List.map_map]; rfl
theorem AG.next {A : AdmM} (wf : A.Wf) (s : SI A) (now : Int) : AG A (A.nextM now) := by
 obtain ⟨h1, h2, h3⟩ := expire_wf wf now
 refine ⟨?_, ?_, Rep.SI.next s now⟩
 ·unfold AdmM.nextM; split <;> exact h2
 ·have e : (A.nextM now).sch = (popV (A.expireM now).sch).2.2 := by unfold AdmM.nextM; split <;> rfl
  rw [e, pop_quanta h1.sch]; exact (AG.exp wf s now).qs
structure RInv (C : ConfM) (R : RepM) : Prop where
 fit : R.Fit
 cl : C.clients = R.clients
 acl : R.adm.clients = R.clients
 cap : C.window = R.cap
 wcap : R.win.cap = R.cap
 qs : R.adm.sch.cls.map ClsM.quantum = C.qs
 si : SI R.adm
 lok : LogOk R.log
 ch : R.ch = chZ ∨ chOk R.ch = true
 sn : R.since = (sinceOf R.ch R.id).1
 ahead : R.win.last ≤ R.win.done + R.win.cap
 rd : R.rds.l.Pairwise (fun x y => x.id < y.id) ∧ ∀ x ∈ R.rds.l, x.id ≤ R.rds.last
 rw : R.rds.l ≠ [] → R.whole = true ∧ 0 < R.since
structure REq (R : RepM) (n : NdM) : Prop where
 id : n.id = R.id
 ch : n.ch = R.ch
 since : n.since = R.since
 whole : n.whole = R.whole
 log : n.log = R.log
 done : n.done = R.win.done
 sent : n.sent = R.win.sent
 limit : n.limit = R.win.limit
 have_ : n.have_ = R.have_
 linked : n.linked = R.linked
 adm : AEq n.adm R.adm
 rds : n.rds = R.rds
 st : R.whole = true → n.st = R.start
 bs : R.base = max n.bs (-1)
theorem chOk_mem {c : ChM} (h : chOk c = true) {i : Nat} {m : MemM} (hm : c.ms[i]? = some m) : 0 ≤ m.1 ∧ m.1 < 6 ∧ placeOf c.ms m.1 = i ∧ 1 ≤ m.2 ∧ m.2 ≤ c.epoch := by
 simp only [chOk, Bool.and_eq_true, List.all_eq_true] at h
 have h2 := h.2.1 i (List.mem_range.2 (List.getElem?_eq_some_iff.1 hm).1)
 simp only [memOk, hm, nodeB, Bool.and_eq_true, decide_eq_true_eq] at h2
 exact ⟨h2.1.1, h2.1.2, h2.2.1, h2.2.2.1, h2.2.2.2⟩
theorem chOk_head {c : ChM} (h : chOk c = true) : 1 ≤ c.epoch ∧ c.epoch ≤ 1099511627776 ∧ 1 ≤ c.ms.length ∧ c.ms.length ≤ 6 := by
 simp only [chOk, headOk, Bool.and_eq_true, decide_eq_true_eq] at h
 exact ⟨h.1.1, h.1.2.1, h.1.2.2.1, h.1.2.2.2⟩
theorem chE_ok {c : ChM} : chE c = 0 ↔ chOk c = true := by
 unfold chE
 split
 ·rename_i h; simp [h]
 ·rename_i h; simp [h]
theorem chZ_no : chOk chZ = false := by decide
section
variable {C : ConfM} {R : RepM} {n : NdM}
theorem RInv.in_ (i : RInv C R) : (0 < R.since ↔ 0 ≤ placeOf R.ch.ms R.id) ∧ (0 ≤ placeOf R.ch.ms R.id → chOk R.ch = true) := by
 rcases i.ch with h | h
 ·have hp : placeOf R.ch.ms R.id = -1 := by rw [h]; rfl
  have hs := i.sn
  rw [h, sinceOf, if_neg (fun e => by rw [chZ_no] at e; cases e.1)] at hs
  rw [hp, hs]
  exact ⟨by decide, fun e => absurd e yy⟩
 ·refine ⟨?_, fun _ => h⟩
  rw [i.sn, sinceOf]
  by_cases hp : 0 ≤ placeOf R.ch.ms R.id
  ·rw [if_pos ⟨h, hp⟩]
   rcases place_range R.ch.ms R.id with e | ⟨k, m, e, hk, hm, hn⟩
   ·omega
   ·have h2 := chOk_mem h hm
    have h3 : (placeOf R.ch.ms R.id).toNat = k := by omega
    rw [h3, hm]
    show 0 < m.2 ↔ _
    omega
  ·rw [if_neg (fun e => hp e.2)]
   exact ⟨fun e => absurd e yy, fun e => absurd e hp⟩
theorem REq.place (e : REq R n) (i : RInv C R) : n.place = placeOf R.ch.ms R.id := by
 unfold NdM.place
 rw [e.since, e.ch, e.id]
 by_cases h : 0 < R.since
 ·rw [if_pos h]
 ·rw [if_neg h]
  rcases place_range R.ch.ms R.id with e1 | ⟨k, m, e1, _⟩
  ·rw [e1]
  ·exact absurd (i.in_.1.2 ye) h
theorem REq.inB (e : REq R n) (i : RInv C R) : decide (0 ≤ n.place) = R.inB := by
 rw [e.place i, RepM.inB]
 exact decide_eq_decide.2 i.in_.1.symm
theorem memAt_of {c : ChM} (h : chOk c = true) {k : Nat} {m : MemM} (hm : c.ms[k]? = some m) : memAt c k = m.1 := by
 have hk := (List.getElem?_eq_some_iff.1 hm).1
 rw [memAt, if_pos ⟨h, by omega, by omega⟩]
 simp [hm]
theorem REq.at_ (e : REq R n) (i : RInv C R) (hp : 0 ≤ placeOf R.ch.ms R.id) (k : Int) : n.at_ k = memAt R.ch k := by
 have hok := i.in_.2 hp
 unfold NdM.at_ memAt
 rw [e.place i, e.ch]
 by_cases h : k < 0 ∨ (R.ch.ms.length : Int) ≤ k
 ·rw [if_pos ye, if_neg ye]
 ·rw [if_neg ye, if_pos ⟨hok, by omega, by omega⟩]
theorem REq.ahead (e : REq R n) (i : RInv C R) : n.ahead = R.prevM := by
 unfold NdM.ahead RepM.prevM prevOf
 by_cases hp : 0 ≤ placeOf R.ch.ms R.id
 ·rw [e.at_ i hp, e.place i]
 ·rw [NdM.at_, if_pos (by rw [e.place i]; omega), memAt, if_neg ye]
theorem REq.next (e : REq R n) (i : RInv C R) : n.next = R.nextM := by
 unfold NdM.next RepM.nextM nextOf
 by_cases hp : 0 ≤ placeOf R.ch.ms R.id
 ·rw [e.at_ i hp, e.place i, if_neg ye]
 ·rw [NdM.at_, if_pos (by rw [e.place i]; omega), if_pos ye]
theorem RInv.nth (i : RInv C R) (k : Nat) (hk : k < R.ch.ms.length) : (R.inB && (memAt R.ch k == R.id)) = (placeOf R.ch.ms R.id == (k : Int)) := by
 obtain ⟨m, hm⟩ : ∃ m, R.ch.ms[k]? = some m := ⟨_, GE hk⟩
 rw [Bool.eq_iff_iff, Bool.and_eq_true, beq_iff_eq, beq_iff_eq, RepM.inB, decide_eq_true_eq, i.in_.1]
 constructor
 ·rintro ⟨h1, h2⟩
  have hok := i.in_.2 h1
  rw [memAt_of hok hm] at h2
  rw [← h2]
  exact (chOk_mem hok hm).2.2.1
 ·intro h
  have h1 : 0 ≤ placeOf R.ch.ms R.id := by omega
  have hok := i.in_.2 h1
  refine ⟨h1, ?_⟩
  rw [memAt_of hok hm]
  rcases place_range R.ch.ms R.id with e1 | ⟨j, x, e1, _, hx, hn⟩
  ·omega
  ·obtain rfl : j = k := by omega
   rw [hx] at hm; cases hm; exact hn
theorem REq.head (e : REq R n) (i : RInv C R) : (n.place == 0) = R.headB := by
 rw [e.place i, RepM.headB, headOf]
 by_cases h : 0 < R.ch.ms.length
 ·exact (i.nth 0 h).symm
 ·have : R.ch.ms = [] := List.eq_nil_of_length_eq_zero ye
  have h2 : R.inB = false := by rw [RepM.inB]; exact DF (fun e => by
   have h3 := i.in_.1.1 e
   rw [‹R.ch.ms = []›] at h3
   have : placeOf ([] : List MemM) R.id = -1 := rfl
   omega)
  rw [h2, this]; rfl
theorem REq.tail (e : REq R n) (i : RInv C R) : n.tail = R.tailB := by
 rw [NdM.tail, e.inB i, e.place i, e.ch, RepM.tailB, tailOf]
 by_cases h : 0 < R.ch.ms.length
 ·have h1 := i.nth (R.ch.ms.length - 1) ye
  rw [show (((R.ch.ms.length - 1 : Nat)) : Int) = (R.ch.ms.length : Int) - 1 from by omega] at h1
  rw [h1, ← h1, ← Bool.and_assoc, Bool.and_self]
 ·have h2 : R.inB = false := by rw [RepM.inB]; exact DF (fun e => by
   have h3 := i.in_.1.1 e
   rw [List.eq_nil_of_length_eq_zero (l := R.ch.ms) ye] at h3
   have : placeOf ([] : List MemM) R.id = -1 := rfl
   omega)
  rw [h2]; rfl
theorem REq.drains (e : REq R n) (i : RInv C R) : n.drains = R.drainsB := by
 rw [NdM.drains, e.inB i, e.ch, e.id, RepM.drainsB]
theorem REq.len (e : REq R n) (i : RInv C R) : (n.log.length : Int) = R.win.last := by rw [e.log, i.fit.ok.last]
end
end Nd
namespace Nd
open Go Vg Api Kv Ch Lg Rd Win Adm Sched Conf Rep Ref16 Rk
def Goes (n m : NdM) (Q : RepM) (S : List SndM) : Prop := REq Q m ∧ m.out = n.out ++ S
theorem Goes.trans {n m l : NdM} {Q P : RepM} {S T : List SndM} (h : Goes n m Q S) (k : Goes m l P T) : Goes n l P (S ++ T) := ⟨k.1, by rw [k.2, h.2, List.append_assoc]⟩
theorem Goes.none {n m : NdM} {Q : RepM} (h : REq Q m) (ho : m.out = n.out) : Goes n m Q [] := ⟨h, by rw [ho, List.append_nil]⟩
section
variable {C : ConfM} {R : RepM} {n : NdM}
theorem REq.out (e : REq R n) (o : List SndM) : REq R { n with out := o } := ⟨e.id, e.ch, e.since, e.whole, e.log, e.done, e.sent, e.limit, e.have_, e.linked, e.adm, e.rds, e.st, e.bs⟩
theorem REq.send (e : REq R n) (to : Int) (f : FrameM) : Goes n (n.send to f) R [(to, f)] := ⟨e.out _, rfl⟩
theorem REq.greet (e : REq R n) (i : RInv C R) : Goes n (n.greet C) R R.greetM := by
 unfold NdM.greet RepM.greetM
 rw [e.ahead i]
 split
 ·exact Goes.none e rfl
 ·have : n.grant C = if R.drainsB = true then R.win.last else R.win.done + R.win.cap := by
   unfold NdM.grant
   rw [e.drains i, e.len i, e.done, i.cap, i.wcap]
  rw [this, e.ch, e.done, e.len i]
  exact e.send _ _
theorem REq.base (e : REq R n) (i : RInv C R) : Goes n n.base R R.baseM := by
 unfold NdM.base RepM.baseM
 rw [e.whole, e.next i, e.ch]
 by_cases h : R.whole = true ∧ 0 ≤ R.nextM
 ·have hp : 0 ≤ n.place := by
   rw [e.place i]
   have := h.2
   unfold RepM.nextM nextOf at this
   split at this
   ·exact absurd this yy
   ·omega
  rw [if_pos h, if_pos ⟨h.1, hp, h.2⟩, e.st h.1]
  exact e.send _ _
 ·rw [if_neg h, if_neg (fun k => h ⟨k.1, k.2.2⟩)]
  exact Goes.none e rfl
theorem REq.alive (e : REq R n) : Goes n n.alive R R.masterM := by
 unfold NdM.alive RepM.masterM
 rw [e.ch, e.whole]
 exact e.send _ _
theorem REq.finish (e : REq R n) (i : RInv C R) : Goes n n.finish R.finishR R.finishM := by
 have hw := i.fit.ok.win
 have d0 := hw.done0; have d1 := hw.done1
 unfold NdM.finish RepM.finishR RepM.finishM
 rw [e.tail i]
 split
 ·have hk : ((n.log.length : Int) - n.done).toNat = (R.win.last - R.win.done).toNat := by rw [e.len i, e.done]
  rw [hk]
  have hdone : R.win.ack R.win.last = { R.win with done := R.win.last } := by
   unfold WinM.ack WinM.ackB
   by_cases h : R.win.done < R.win.last
   ·rw [if_pos yd]
   ·have : R.win.done = R.win.last := by omega
    rw [if_neg yd, ← this]
  rw [hdone]
  refine ⟨⟨e.id, e.ch, e.since, e.whole, e.log, ?_, e.sent, e.limit, e.have_, e.linked, e.adm, e.rds, e.st, e.bs⟩, ?_⟩
  ·show n.done + _ = R.win.last
   rw [e.done]; omega
  ·show n.out ++ _ = n.out ++ replies R _
   congr 1
   unfold replies
   refine List.map_congr_left fun j _ => ?_
   unfold NdM.replyN replyOf
   rw [e.log, e.done]
 ·exact Goes.none e rfl
theorem REq.becomeB (e : REq R n) (i : RInv C R) : n.becomeB = R.becomeB := by
 unfold NdM.becomeB RepM.becomeB
 rw [e.inB i, e.whole, e.len i]
 congr 2
 have := e.bs
 by_cases h : 0 ≤ n.bs
 ·have hb : R.base = n.bs := by omega
  have h1 : R.base ≠ -1 := by omega
  rw [DT h, DT h1, hb]
 ·have hb : R.base = -1 := by omega
  rw [show decide (0 ≤ n.bs) = false from DF h, show decide (R.base ≠ -1) = false from DF (fun k => k hb)]
  rfl
theorem RInv.whole (i : RInv C R) {b : Bool} (hb : R.whole = true → b = true) (s : Int) : RInv C { R with whole := b, start := s } :=
 ⟨⟨⟨i.fit.ok.ch, i.fit.ok.win, i.fit.ok.last, i.fit.ok.logc, i.fit.ok.logi, i.fit.ok.rc0, i.fit.ok.rc1, i.fit.ok.rl, i.fit.ok.rn0, i.fit.ok.rn1, i.fit.ok.rcl, i.fit.ok.calls, i.fit.ok.wf⟩, i.fit.most, i.fit.cap0, i.fit.cap1, i.fit.cl⟩, i.cl, i.acl, i.cap, i.wcap, i.qs, i.si, i.lok, i.ch, i.sn, i.ahead, i.rd, fun h => ⟨hb (i.rw h).1, (i.rw h).2⟩⟩
theorem RInv.become (i : RInv C R) : RInv C R.becomeR := by
 unfold RepM.becomeR; split
 ·exact i.whole (fun _ => rfl) _
 ·exact i
theorem REq.becomes (e : REq R n) (i : RInv C R) : Goes n n.becomes R.becomeR R.becomeM := by
 unfold NdM.becomes RepM.becomeM
 rw [e.becomeB i]
 by_cases h : R.becomeB = true
 ·rw [if_pos h, if_pos h]
  have e2 : REq R.becomeR { n with whole := true, st := n.log.length } := by
   unfold RepM.becomeR
   rw [if_pos h]
   exact ⟨e.id, e.ch, e.since, Z, e.log, e.done, e.sent, e.limit, e.have_, e.linked, e.adm, e.rds, fun _ => e.len i, e.bs⟩
  exact (e2.base i.become).1 |> fun h1 => ⟨h1, (e2.base i.become).2⟩
 ·rw [if_neg h, if_neg h]
  refine Goes.none ?_ rfl
  unfold RepM.becomeR
  rw [if_neg h]; exact e
theorem RInv.finish (i : RInv C R) : RInv C R.finishR := by
 have f : R.finishR.Fit := i.fit.stays (finish_stays R) (finishR_ok i.fit.ok)
 unfold RepM.finishR at f ⊢
 split
 ·rename_i h
  rw [if_pos h] at f
  have h1 : (R.win.ack R.win.last).cap = R.win.cap := by unfold WinM.ack; split <;> rfl
  have h2 := i.ahead
  refine ⟨f, i.cl, i.acl, i.cap, h1.trans i.wcap, i.qs, i.si, i.lok, i.ch, i.sn, ?_, i.rd, i.rw⟩
  show (R.win.ack R.win.last).last ≤ _
  rw [h1, ack_last]
  have : R.win.done ≤ (R.win.ack R.win.last).done := by
   unfold WinM.ack WinM.ackB
   split
   ·rename_i h3; simp at h3; show R.win.done ≤ R.win.last; omega
   ·omega
  show R.win.last ≤ (R.win.ack R.win.last).done + _
  omega
 ·exact i
theorem REq.adm' (e : REq R n) {D A : AdmM} (h : AEq D A) : REq { R with adm := A } { n with adm := D } := ⟨e.id, e.ch, e.since, e.whole, e.log, e.done, e.sent, e.limit, e.have_, e.linked, h, e.rds, e.st, e.bs⟩
theorem RInv.adm' (i : RInv C R) {A : AdmM} (g : AG R.adm A) (wf : A.Wf) (hC : A.Calls) : RInv C { R with adm := A } :=
 ⟨⟨adm_ok i.fit.ok hC wf, i.fit.most, i.fit.cap0, i.fit.cap1, i.fit.cl⟩, i.cl, g.cl.trans i.acl, i.cap, i.wcap, g.qs.trans i.qs, g.si, i.lok, i.ch, i.sn, i.ahead, i.rd, i.rw⟩
theorem REq.wrong (e : REq R n) (f : FrameM) (b : Bool) : n.wrong f b = if R.knownB f = false then 5 else if b = false then 4 else if R.whole = false then 8 else 0 := by
 unfold NdM.wrong RepM.knownB
 rw [e.ch, e.whole]
 by_cases h : f.epoch = R.ch.epoch
 ·have h1 : ¬ (f.epoch ≠ R.ch.epoch) := fun k => k h
  have h2 : ¬ ((f.epoch == R.ch.epoch) = false) := by simp [h]
  rw [if_neg h1, if_neg h2]
 ·have h2 : (f.epoch == R.ch.epoch) = false := by simp [h]
  rw [if_pos h, if_pos h2]
theorem REq.read (e : REq R n) (i : RInv C R) (f : FrameM) (now : Int) : Goes n (n.read f now) (readR R f now).1 (readR R f now).2 := by
 have hm := i.fit.most
 unfold NdM.read readR
 have hr : readReason R f now = if n.wrong f n.tail ≠ 0 then n.wrong f n.tail else if f.deadline < now then 2 else if R.most ≤ R.rds.l.length then 1 else 0 := by
  rw [e.wrong, e.tail i]
  unfold readReason
  repeat' split
  all_goals simp_all
 have href : ∀ x, n.refuse f x = n.send (32 + f.client) (refuseF R.ch.epoch f x) := fun x => by rw [NdM.refuse, e.ch]
 by_cases h1 : n.wrong f n.tail ≠ 0
 ·have h5 : readReason R f now = n.wrong f n.tail := by rw [hr, if_pos h1]
  rw [h5, if_pos h1, if_pos h1, href]
  exact e.send _ _
 rw [if_neg h1]
 by_cases h2 : f.deadline < now
 ·have h5 : readReason R f now = 2 := by rw [hr, if_neg h1, if_pos h2]
  rw [h5, if_pos h2, href]
  exact e.send _ _
 rw [if_neg h2, e.rds]
 by_cases h3 : (R.rds.l.length : Int) < R.rds.cap
 ·have h4 : ¬ R.most ≤ (R.rds.l.length : Int) := by omega
  have h5 : readReason R f now = 0 := by rw [hr, if_neg h1, if_neg h2, if_neg h4]
  rw [h5, if_pos h3, e.log, e.ch, if_neg (show ¬ (0 : Int) ≠ 0 from fun h => h rfl)]
  exact ⟨⟨e.id, Z, e.since, e.whole, Z, e.done, e.sent, e.limit, e.have_, e.linked, e.adm, Z, e.st, e.bs⟩, Z⟩
 ·have h4 : R.most ≤ (R.rds.l.length : Int) := by omega
  have h5 : readReason R f now = 1 := by rw [hr, if_neg h1, if_neg h2, if_pos h4]
  rw [h5, if_neg h3, href]
  exact e.send _ _
theorem run_codes : ∀ (es : List EntryM) (x : KvM × List ResM), (∀ r ∈ x.2, r.code ≠ 0) → (∀ e ∈ es, opCheck e.op = 0 ∧ e.op.kind ≠ 1 ∧ 1 ≤ e.index ∧ e.index ≤ 4096) → ∀ r ∈ (es.foldl logStep x).2, r.code ≠ 0
 | [], x, hx, _ => hx
 | e :: es, x, hx, hg => by
  refine run_codes es (logStep x e) (fun r hr => ?_) (fun y hy => hg y (List.mem_cons_of_mem _ hy))
  obtain ⟨g1, g2, g3, g4⟩ := hg e (List.mem_cons_self ..)
  rcases List.mem_append.1 hr with hr | hr
  ·exact hx r hr
  ·rw [List.mem_singleton.1 hr]
   unfold kvApply
   rw [if_neg ye, if_neg g2]
   repeat' split
   all_goals (dsimp only; decide)
theorem LogOk.good {es : List EntryM} (h : LogOk es) (hl : es.length ≤ 4096) {e : EntryM} (he : e ∈ es) : opCheck e.op = 0 ∧ e.op.kind ≠ 1 ∧ 1 ≤ e.index ∧ e.index ≤ 4096 := by
 obtain ⟨k, hk⟩ := List.getElem?_of_mem he
 have hlt := (List.getElem?_eq_some_iff.1 hk).1
 obtain ⟨h1, h2, h3, h4⟩ := logErr_ok (h k e hk)
 rw [List.length_take] at h3
 simp only [badE, Lg.readsB, Bool.or_eq_false_iff, Bool.and_eq_false_iff, decide_eq_false_iff_not] at h1
 have hc : opCheck e.op = 0 := by have := h1.2.1; omega
 refine ⟨hc, ?_, by omega, by omega⟩
 rcases h1.2.2 with h5 | h5
 ·exact h5
 ·exact absurd hc h5
theorem RInv.code (i : RInv C R) {k : Int} (h0 : 1 ≤ k) (h1 : k ≤ R.log.length) : ((atI (logRun R.log).2 k).getD resZ).code ≠ 0 := by
 have hl := i.fit.ok.win.last1
 rw [i.fit.ok.last] at hl
 have hrl := logRun_len R.log
 obtain ⟨j, r, _, _, hr, hat⟩ := atI_some (l := (logRun R.log).2) (i := k) h0 (by rw [hrl]; exact h1)
 rw [hat]
 exact run_codes R.log ([], []) (fun r hr => by cases hr) (fun e he => LogOk.good i.lok ye he) r (ME hr)
theorem last_same (es : List EntryM) {c : Int} (h : 0 ≤ c ∧ c < 6) : lastR es c = lastOf es c := by unfold lastR; rw [if_pos h]
theorem REq.told (e : REq R n) (f : FrameM) (r : Int) {D A : AdmM} (h : AEq D A) : Goes n (n.told f r D)
  (if r = 0 then { R with adm := A } else if r ≠ 6 ∧ r ≠ 10 then { R with adm := (A.barM f.client f.seq f.try_).2 } else { R with adm := A })
  (if r = 0 then [] else [(32 + f.client, refuseF R.ch.epoch f r)]) := by
 unfold NdM.told
 by_cases h0 : r = 0
 ·rw [if_pos h0, if_pos h0, if_pos h0]; exact Goes.none (e.adm' h) rfl
 rw [if_neg h0, if_neg h0, if_neg h0]
 by_cases h1 : r ≠ 6 ∧ r ≠ 10
 ·rw [if_pos h1, if_pos h1]; exact ⟨((e.adm' (h.barM f.client f.seq f.try_)).send _ _).1, by show n.out ++ [(_, refuseF n.ch.epoch f r)] = _; rw [e.ch]⟩
 ·rw [if_neg h1, if_neg h1]; exact ⟨((e.adm' h).send _ _).1, by show n.out ++ [(_, refuseF n.ch.epoch f r)] = _; rw [e.ch]⟩
theorem REq.update (e : REq R n) (i : RInv C R) (f : FrameM) (now : Int) : Goes n (n.update f now) (updateR R f now).1 (updateR R f now).2 := by
 have plain : ∀ {r : Int} {D A : AdmM}, AEq D A → n.judge f now = (none, r, D) → judgeM R f now = (r, resZ, A) → Goes n (n.update f now) (updateR R f now).1 (updateR R f now).2 := fun {r D A} h h1 h2 => by
  have := e.told f r h
  unfold NdM.update updateR
  rw [h1, h2]
  dsimp only
  rw [if_neg (show ¬ resZ.code ≠ 0 from fun k => k rfl)]
  by_cases h0 : r = 0
  ·rw [if_pos h0, if_pos h0] at this; rw [if_pos h0]; exact this
  ·rw [if_neg h0, if_neg h0] at this; rw [if_neg h0]
   by_cases h3 : r ≠ 6 ∧ r ≠ 10
   ·rw [if_pos h3] at this; rw [if_pos h3]; exact this
   ·rw [if_neg h3] at this; rw [if_neg h3]; exact this
 obtain ⟨w, hw⟩ : ∃ w, w = n.wrong f (n.place == 0) := ⟨_, rfl⟩
 have hw2 := e.wrong f (n.place == 0)
 rw [← hw, e.head i] at hw2
 have J : n.judge f now = if R.adm.may f = false then (none, 10, n.adm)
   else if R.adm.barred f.client f.seq f.try_ = true then (none, 7, n.adm)
   else if w = 0 ∧ R.drainsB = true then (none, 3, n.adm)
   else if w = 0 ∧ 0 < (lastOf R.log f.client).1 ∧ f.seq = (lastOf R.log f.client).1 then
    (if (lastOf R.log f.client).2 ≤ R.win.done then (some ((atI (logRun R.log).2 (lastOf R.log f.client).2).getD resZ), 0, n.adm) else (none, 6, n.adm))
   else if w = 0 ∧ f.seq < (lastOf R.log f.client).1 then (none, 7, n.adm)
   else if w = 0 ∧ 4096 ≤ R.log.length then (none, 1, n.adm)
   else if w = 0 then (none, raOffer n.adm f now)
   else (none, w, n.adm) := by
  unfold NdM.judge
  rw [e.adm.may, e.adm.barred, e.drains i, e.log, e.done, ← hw]
 by_cases c1 : R.adm.may f = false
 ·exact plain e.adm (by rw [J, if_pos c1]) (by rw [judgeM, if_pos c1])
 by_cases c2 : R.adm.barred f.client f.seq f.try_ = true
 ·exact plain e.adm (by rw [J, if_neg c1, if_pos c2]) (by rw [judgeM, if_neg c1, if_pos c2])
 obtain ⟨m1, m2, m3⟩ := may_client (A := R.adm) (f := f) (by simpa using c1)
 have hr := (has_iff _ _).1 m1
 have hcl := i.fit.cl; have hacl := i.acl
 have hl := last_same R.log (c := f.client) ⟨hr.1, by omega⟩
 have hs1 : 1 ≤ f.seq := by simp only [numM, Bool.and_eq_true, decide_eq_true_eq] at m2; exact m2.1
 have wno : w ≠ 0 → n.judge f now = (none, w, n.adm) := fun h => by
  rw [J, if_neg c1, if_neg c2, if_neg (fun k => h k.1), if_neg (fun k => h k.1), if_neg (fun k => h k.1), if_neg (fun k => h k.1), if_neg h]
 by_cases c3 : R.knownB f = false
 ·rw [if_pos c3] at hw2
  rw [hw2] at wno
  exact plain e.adm (wno yy) (by rw [judgeM, if_neg c1, if_neg c2, if_pos c3])
 rw [if_neg c3] at hw2
 by_cases c4 : R.headB = false
 ·rw [if_pos c4] at hw2
  rw [hw2] at wno
  exact plain e.adm (wno yy) (by rw [judgeM, if_neg c1, if_neg c2, if_neg c3, if_pos c4])
 rw [if_neg c4] at hw2
 by_cases c5 : R.whole = false
 ·rw [if_pos c5] at hw2
  rw [hw2] at wno
  exact plain e.adm (wno yy) (by rw [judgeM, if_neg c1, if_neg c2, if_neg c3, if_neg c4, if_pos c5])
 rw [if_neg c5] at hw2
 subst hw2
 by_cases c6 : R.drainsB = true
 ·exact plain e.adm (by rw [J, if_neg c1, if_neg c2, if_pos ⟨rfl, c6⟩]) (by rw [judgeM, if_neg c1, if_neg c2, if_neg c3, if_neg c4, if_neg c5, if_pos c6])
 have JR : judgeM R f now = if f.seq = (lastOf R.log f.client).1 ∧ R.win.done < (lastOf R.log f.client).2 then (6, resZ, R.adm)
   else if f.seq = (lastOf R.log f.client).1 then (0, (atI (logRun R.log).2 (lastOf R.log f.client).2).getD resZ, R.adm)
   else if f.seq < (lastOf R.log f.client).1 then (7, resZ, R.adm)
   else if 4096 ≤ R.log.length then (1, resZ, R.adm)
   else ((R.adm.offerM f now).1, resZ, (R.adm.offerM f now).2) := by
  rw [judgeM, if_neg c1, if_neg c2, if_neg c3, if_neg c4, if_neg c5, if_neg c6, hl]
 have c6' : ¬ ((0 : Int) = 0 ∧ R.drainsB = true) := fun k => c6 k.2
 rw [if_neg c1, if_neg c2, if_neg c6'] at J
 by_cases c7 : f.seq = (lastOf R.log f.client).1
 ·rw [if_pos ⟨rfl, by omega, c7⟩] at J
  by_cases c8 : R.win.done < (lastOf R.log f.client).2
  ·exact plain e.adm (by rw [J, if_neg ye]) (by rw [JR, if_pos ⟨c7, c8⟩])
  ·rw [if_pos ye] at J
   rw [if_neg (fun k => c8 k.2), if_pos c7] at JR
   have hd := i.fit.ok.win.done1
   have hidx : 1 ≤ (lastOf R.log f.client).2 := by
    rcases lastOf_mem R.log f.client with h | ⟨x, hx, h, _⟩
    ·rw [h] at c7; dsimp only at c7; omega
    ·rw [h]; exact (i.fit.ok.logi x hx).1
   have hcode := i.code (k := (lastOf R.log f.client).2) hidx (by rw [← i.fit.ok.last]; omega)
   unfold NdM.update updateR
   rw [J, JR]
   dsimp only
   rw [if_pos hcode]
   exact e.send _ _
 rw [if_neg (fun k => c7 k.2.2)] at J
 rw [if_neg (fun k => c7 k.1), if_neg c7] at JR
 by_cases c8 : f.seq < (lastOf R.log f.client).1
 ·exact plain e.adm (by rw [J, if_pos ⟨rfl, c8⟩]) (by rw [JR, if_pos c8])
 rw [if_neg (fun k => c8 k.2)] at J
 rw [if_neg c8] at JR
 by_cases c9 : 4096 ≤ R.log.length
 ·exact plain e.adm (by rw [J, if_pos ⟨rfl, c9⟩]) (by rw [JR, if_pos c9])
 rw [if_neg (fun k => c9 k.2), if_pos rfl] at J
 rw [if_neg c9] at JR
 obtain ⟨o1, o2⟩ := e.adm.offer i.si f now
 refine plain o2 (r := (R.adm.offerM f now).1) ?_ JR
 rw [J, ← o1]
theorem RInv.update (i : RInv C R) (f : FrameM) (now : Int) : RInv C (updateR R f now).1 := by
 obtain ⟨A, hA, h, _⟩ := upd_form R f now
 have hok := updateR_ok i.fit.ok f now
 rw [hA] at hok ⊢
 refine i.adm' ?_ hok.wf hok.calls
 rcases h with rfl | rfl | ⟨k, s, t, rfl | rfl⟩
 ·exact AG.refl i.si
 ·exact AG.offer i.si f now
 ·exact (AG.refl i.si).bar k s t
 ·exact (AG.offer i.si f now).bar k s t
end
end Nd
namespace Nd
open Go Vg Api Kv Ch Lg Rd Win Adm Sched Conf Rep Ref16 Rk
section
variable {C : ConfM} {R : RepM} {n : NdM}
theorem RInv.ok (i : RInv C R) : R.Ok := i.fit.ok
theorem RInv.read (i : RInv C R) (hr : R.rds.last < 100000000) (f : FrameM) (now : Int) (h0 : 0 ≤ f.client) (h1 : f.client ≤ 1000) : RInv C (readR R f now).1 := by
 have hok := readR_ok i.ok hr f now h0 h1
 unfold readR at hok ⊢
 split
 ·exact i
 ·rename_i h
  rw [if_neg h] at hok
  have rr : R.whole = true ∧ 0 < R.since := by
   have h : readReason R f now = 0 := by simpa using h
   unfold readReason at h
   by_cases a : R.knownB f = false
   ·rw [if_pos a] at h; cases h
   rw [if_neg a] at h
   by_cases b : R.tailB = false
   ·rw [if_pos b] at h; cases h
   rw [if_neg b] at h
   by_cases c : R.whole = false
   ·rw [if_pos c] at h; cases h
   have b : R.tailB = true := by simpa using b
   simp only [RepM.tailB, RepM.inB, Bool.and_eq_true, decide_eq_true_eq] at b
   exact ⟨by simpa using c, b.1⟩
  refine ⟨⟨hok, by show R.most = (R.rds.put _ _).cap; rw [put_cap]; exact i.fit.most, i.fit.cap0, i.fit.cap1, i.fit.cl⟩, i.cl, i.acl, i.cap, i.wcap, i.qs, i.si, i.lok, i.ch, i.sn, i.ahead, ?_, fun _ => rr⟩
  show (R.rds.put _ _).l.Pairwise _ ∧ ∀ x ∈ (R.rds.put _ _).l, x.id ≤ (R.rds.put _ _).last
  unfold RdsM.put
  split
  ·obtain ⟨p1, p2⟩ := i.rd
   refine ⟨List.pairwise_append.2 ⟨p1, List.pairwise_singleton _ _, fun x hx y hy => ?_⟩, fun x hx => ?_⟩
   ·rw [List.mem_singleton.1 hy]
    have := p2 x hx
    show x.id < R.rds.last + 1; omega
   ·show x.id ≤ R.rds.last + 1
    rcases List.mem_append.1 hx with hx | hx
    ·have := p2 x hx; omega
    ·rw [List.mem_singleton.1 hx]; exact Int.le_refl _
  ·exact i.rd
theorem RInv.ent5 (i : RInv C R) {c : ChM} (hc : chOk c = true) : RInv C (ent5 R c) := by
 have hS : ChS c := ⟨by have := (chOk_head hc).2.2.2; omega⟩
 have hok := ent5_ok i.ok hS i.fit.cap0 i.fit.cap1
 have g := AG.exp i.ok.wf i.si maxI
 have key : ∀ Q : RepM, Q = ent4 R c ∨ Q = { ent4 R c with start := (ent4 R c).win.last } → Q.Ok → RInv C Q := by
  intro Q hQ hq
  have hw : (ent2 R c).win.cap = R.cap ∧ (ent2 R c).win.last ≤ (ent2 R c).win.done + (ent2 R c).win.cap := by
   unfold Rep.ent2
   dsimp only
   split
   ·have := i.fit.cap0; exact ⟨rfl, by show (0 : Int) ≤ 0 + R.cap; omega⟩
   ·exact ⟨i.wcap, i.ahead⟩
  have hl : LogOk (ent2 R c).log := by
   unfold Rep.ent2
   dsimp only
   split
   ·intro k e he; cases he
   ·exact i.lok
  have r : RInv C (ent4 R c) → RInv C { ent4 R c with start := (ent4 R c).win.last } := fun k => k.whole (fun h => h) _
  have r0 : Q.Ok → (ent4 R c).Ok := fun _ => ent4_ok i.ok hS i.fit.cap0 i.fit.cap1
  have base : RInv C (ent4 R c) := ⟨⟨r0 hq, i.fit.most, i.fit.cap0, i.fit.cap1, i.fit.cl⟩, i.cl, g.cl.trans i.acl, i.cap, hw.1, g.qs.trans i.qs, g.si, hl, .inr hc, rfl, hw.2, ⟨.nil, fun x hx => by cases hx⟩, fun h => absurd rfl h⟩
  rcases hQ with rfl | rfl
  ·exact base
  ·exact r base
 unfold Rep.ent5 at hok ⊢
 split
 ·rename_i h; rw [if_pos h] at hok; exact key _ (.inr rfl) hok
 ·rename_i h; rw [if_neg h] at hok; exact key _ (.inl rfl) hok
theorem REq.ent4 (e : REq R n) (i : RInv C R) {c : ChM} (hc : chOk c = true) : Goes n (n.ent4 c) (ent5 R c) (entG R c) := by
 obtain ⟨b1, b2⟩ := e.adm.big i.si i.ok.calls
 have hlen := e.len i
 have key : REq { Rep.ent4 R c with start := (Rep.ent4 R c).win.last } (n.ent4 c) := by
  unfold NdM.ent4
  suffices h : REq { Rep.ent4 R c with start := (Rep.ent4 R c).win.last } ((n.ent1.ent2 c).ent3 c) from (h.out _).out _
  unfold Rep.ent4 Rep.ent3 Rep.ent2 Rep.ent1 nlB nwB NdM.ent3 NdM.ent2
  dsimp only
  have e1 : n.ent1.id = R.id := e.id
  have e2 : n.ent1.since = R.since := e.since
  have e3 : n.ent1.log = R.log := e.log
  rw [e1, e2]
  have hl2 : ((n.ent1.log.length : Nat) : Int) = R.win.last := by rw [e3, i.ok.last]
  have hr : n.ent1.rds = { R.rds with l := [] } := by show ({ n.rds with l := [] } : RdsM) = _; rw [e.rds]
  cases h1 : (sinceOf c R.id).2 with
  | false =>
   simp only [if_true, Bool.false_and, Bool.not_false, Bool.true_or, Bool.false_eq_true, if_false]
   exact ⟨rfl, Z, Z, Z, e.log, e.done, hl2, Z, Z, Z, b1, hr, fun _ => hl2, Z⟩
  | true =>
   by_cases h2 : (sinceOf c R.id).1 = R.since
   ·simp only [h2, ne_eq, not_true, decide_false, Bool.and_false, Bool.or_false, Bool.not_true, Bool.false_eq_true, if_false, Bool.true_eq_false]
    exact ⟨e.id, Z, (by show (sinceOf c n.ent1.id).1 = R.since; rw [e1]; exact h2), e.whole, e.log, e.done, hl2, Z, Z, Z, b1, hr, fun _ => hl2, Z⟩
   ·simp only [h2, ne_eq, not_false_eq_true, decide_true, Bool.and_self, Bool.or_true, if_true, Bool.true_eq_false, if_false]
    exact ⟨rfl, rfl, rfl, rfl, rfl, rfl, rfl, rfl, rfl, rfl, b1, hr, (fun h => by cases h), rfl⟩
 constructor
 ·unfold Rep.ent5
  split
  ·exact key
  ·rename_i h
   exact ⟨key.id, key.ch, key.since, key.whole, key.log, key.done, key.sent, key.limit, key.have_, key.linked, key.adm, key.rds, fun k => absurd k h, key.bs⟩
 ·have ho : ((n.ent1.ent2 c).ent3 c).out = n.out := (ent2_id n.ent1 c).2.1
  show ((((n.ent1.ent2 c).ent3 c).refs (n.adm.sch.goneM bigT) 9).out ++ _) = _
  show ((((n.ent1.ent2 c).ent3 c).out ++ _) ++ _) = _
  rw [ho, b2, e.rds, List.append_assoc]
  rfl
theorem RInv.enter (i : RInv C R) {c : ChM} (hc : chOk c = true) : RInv C (enterR R c).1 := (i.ent5 hc).finish
theorem REq.enter (e : REq R n) (i : RInv C R) {c : ChM} (hc : chOk c = true) : Goes n (n.enter C c) (enterR R c).1 (enterR R c).2 := by
 have g1 := e.ent4 i hc
 have i1 := i.ent5 hc
 have g2 := g1.1.finish i1
 have i2 := i1.finish
 have g3 := g2.1.greet i2
 have g4 := g3.1.base i2
 have g5 := g4.1.alive
 exact (((g1.trans g2).trans g3).trans g4).trans g5
theorem RInv.pushE (i : RInv C R) {x : EntryM} (h1 : fwdB R x = true) (h2 : logErr R.log x = 0) : RInv C (pushE R x) := by
 have hr := fwd_room h1
 have ho := pushE_ok i.ok h2 hr
 simp only [WinM.room, Bool.and_eq_true, decide_eq_true_eq] at hr
 exact ⟨⟨ho, i.fit.most, i.fit.cap0, i.fit.cap1, i.fit.cl⟩, i.cl, i.acl, i.cap, i.wcap, i.qs, i.si, i.lok.snoc h2, i.ch, i.sn, by show R.win.last + 1 ≤ R.win.done + R.win.cap; omega, i.rd, i.rw⟩
theorem REq.pushE (e : REq R n) (x : EntryM) (i : RInv C R) : REq (pushE R x) { n with log := n.log ++ [x] } :=
 ⟨e.id, e.ch, e.since, e.whole, by show n.log ++ [x] = R.log ++ [x]; rw [e.log], e.done, e.sent, e.limit, e.have_, e.linked, e.adm, e.rds, e.st, e.bs⟩
theorem fwd_iff (e : REq R n) (i : RInv C R) (x : EntryM) : n.fwdOk C x ↔ fwdB R x = true := by
 have h := e.len i
 have hd := e.done
 have hw := i.wcap; have hc := i.cap
 unfold NdM.fwdOk fwdB
 rw [Bool.and_eq_true, beq_iff_eq, decide_eq_true_eq]
 omega
theorem RInv.forward (i : RInv C R) (x : EntryM) : RInv C (forwardR R x).1 := by
 unfold forwardR
 split
 ·rename_i h; exact ((i.pushE h.1 h.2).finish).become
 ·exact i
theorem REq.forward (e : REq R n) (i : RInv C R) (x : EntryM) : Goes n (n.forward C x) (forwardR R x).1 (forwardR R x).2 := by
 unfold NdM.forward NdM.fwd1 forwardR
 have hfi := fwd_iff e i x
 by_cases h : fwdB R x = true ∧ logErr R.log x = 0
 ·rw [if_pos h, if_pos ⟨hfi.2 h.1, by rw [e.log]; exact h.2⟩]
  have i1 := i.pushE h.1 h.2
  have e1 := e.pushE x i
  have g1 := e1.finish i1
  have g2 := g1.1.becomes i1.finish
  have g3 := g2.1.greet i1.finish.become
  have := (g1.trans g2).trans g3
  exact ⟨this.1, this.2⟩
 ·rw [if_neg h, if_neg (fun k => h ⟨hfi.1 k.1, by rw [← e.log]; exact k.2⟩)]
  exact e.greet i
theorem RInv.ack (i : RInv C R) (f : FrameM) : RInv C (ackR R f).1 := by
 have ho := ackR_ok i.ok f
 have hd : ∀ (W : WinM) (k : Int), W.done ≤ (W.ack k).done ∧ (W.ack k).cap = W.cap := fun W k => by
  unfold WinM.ack WinM.ackB
  split
  ·rename_i h3; simp at h3; exact ⟨by show W.done ≤ k; omega, rfl⟩
  ·exact ⟨Int.le_refl _, Z⟩
 have h2 : ∀ Q : RepM, Q.Ok → Q.id = R.id → Q.clients = R.clients → Q.cap = R.cap → Q.most = R.most → Q.ch = R.ch → Q.since = R.since → Q.log = R.log → Q.whole = R.whole → Q.adm = R.adm → Q.rds = R.rds → Q.win.cap = R.win.cap → Q.win.last = R.win.last → R.win.done ≤ Q.win.done → RInv C Q := by
  intro Q ho a1 a2 a3 a4 a5 a6 a7 aw a8 a9 a10 a11 a12
  have := i.ahead
  exact ⟨⟨ho, by rw [a4, a9]; exact i.fit.most, by rw [a3]; exact i.fit.cap0, by rw [a3]; exact i.fit.cap1, by rw [a2]; exact i.fit.cl⟩, by rw [a2]; exact i.cl, by rw [a8, a2]; exact i.acl, by rw [a3]; exact i.cap, by rw [a10, a3]; exact i.wcap, by rw [a8]; exact i.qs, by rw [a8]; exact i.si, by rw [a7]; exact i.lok, by rw [a5]; exact i.ch, by rw [a6, a5, a1]; exact i.sn, by rw [a11, a10]; omega, by rw [a9]; exact i.rd, by rw [a9, aw, a6]; exact i.rw⟩
 have k : (ack2 R f).win.cap = R.win.cap ∧ (ack2 R f).win.last = R.win.last ∧ (ack2 R f).win.done = R.win.done := by
  unfold Rep.ack2 Rep.ack1; dsimp only; split <;> exact ⟨rfl, rfl, rfl⟩
 obtain ⟨k1, k2, k3⟩ := k
 have q := hd (ack2 R f).win f.index
 refine h2 _ ho ?_ ?_ ?_ ?_ ?_ ?_ ?_ ?_ ?_ ?_ ?_ ?_ ?_
 rotate_left 10
 ·show ((ack2 R f).win.ack f.index).cap = _; rw [q.2, k1]
 ·show ((ack2 R f).win.ack f.index).last = _; rw [ack_last, k2]
 ·show R.win.done ≤ ((ack2 R f).win.ack f.index).done; omega
 all_goals (unfold ackR Rep.ack2 Rep.ack1; dsimp only; split <;> rfl)
theorem REq.ack (e : REq R n) (i : RInv C R) (f : FrameM) : Goes n (n.ackN C f) (ackR R f).1 (ackR R f).2 := by
 have hlen := e.len i
 have mx : ∀ a b : Int, mxV a b = max a b := fun a b => by unfold mxV; split <;> omega
 have mn : ∀ a b : Int, mnV a b = min a b := fun a b => by unfold mnV; split <;> omega
 have e2 : REq (Rep.ack2 R f) (n.ack2 f) := by
  unfold Rep.ack2 Rep.ack1 NdM.ack2 NdM.ack1 NdM.back
  have hlk := e.linked
  cases hb : R.linked
  rotate_left
  ·rw [hb] at hlk
   rw [if_pos hlk, if_pos rfl]
   exact ⟨e.id, e.ch, e.since, e.whole, e.log, e.done, e.sent, by dsimp only; rw [mx, mn, e.limit], by dsimp only; rw [mx, e.have_], hlk, e.adm, e.rds, e.st, e.bs⟩
  ·rw [hb] at hlk
   have hlk2 : ¬ n.linked = true := by rw [hlk]; simp
   rw [if_neg hlk2, if_neg (show ¬ false = true by simp)]
   exact ⟨e.id, e.ch, e.since, e.whole, e.log, e.done, by dsimp only; rw [backV_eq, hlen]; have := i.ok.win.done0; have := i.ok.win.done1; omega, by dsimp only; rw [mx, mn, e.limit], Z, Z, e.adm, e.rds, e.st, e.bs⟩
 have o2 : (n.ack2 f).out = n.out := ack2_out n f
 have k2 : (n.ack2 f).log.length = (Rep.ack2 R f).win.last := by
  rw [e2.log]
  have : (Rep.ack2 R f).win.last = R.win.last ∧ (Rep.ack2 R f).log = R.log := by unfold Rep.ack2 Rep.ack1; dsimp only; split <;> exact ⟨rfl, rfl⟩
  rw [this.1, this.2, i.ok.last]
 have hb : (n.ack2 f).ackB f.index = (Rep.ack2 R f).win.ackB f.index := by
  unfold NdM.ackB WinM.ackB
  rw [e2.done, k2]
 have i2 := i.ack f
 unfold ackR at i2 ⊢
 unfold NdM.ackN
 rw [hb]
 cases h : (Rep.ack2 R f).win.ackB f.index with
 | false =>
  rw [if_neg ya, if_neg ya]
  refine Goes.none ?_ o2
  have : (Rep.ack2 R f).win.ack f.index = (Rep.ack2 R f).win := by unfold WinM.ack; rw [h]; rfl
  show REq { Rep.ack2 R f with win := (Rep.ack2 R f).win.ack f.index } _
  rw [this]; exact e2
 | true =>
  rw [if_pos rfl, if_pos rfl]
  have e3 : REq { Rep.ack2 R f with win := (Rep.ack2 R f).win.ack f.index } ((n.ack2 f).ack f.index) := by
   have : (Rep.ack2 R f).win.ack f.index = { (Rep.ack2 R f).win with done := f.index } := by unfold WinM.ack; rw [h]; rfl
   rw [this, NdM.ack, hb, h, if_pos rfl]
   exact ⟨e2.id, e2.ch, e2.since, e2.whole, e2.log, Z, e2.sent, e2.limit, e2.have_, e2.linked, e2.adm, e2.rds, e2.st, e2.bs⟩
  have o3 : ((n.ack2 f).ack f.index).out = n.out := by rw [NdM.ack, hb, h, if_pos rfl]; exact o2
  have g := e3.greet i2
  exact ⟨g.1, by rw [g.2, o3]⟩
theorem rsure_filter : ∀ {l : List RdM}, l.Pairwise (fun x y => x.id < y.id) → ∀ k : Int, l.take (l.takeWhile fun y => decide (y.id ≤ k)).length = l.filter (fun y => !surely k y) ∧ l.drop (l.takeWhile fun y => decide (y.id ≤ k)).length = l.filter (surely k)
 | [], _, k => ⟨rfl, rfl⟩
 | x :: l, h, k => by
  rw [List.pairwise_cons] at h
  by_cases hx : x.id ≤ k
  ·obtain ⟨h1, h2⟩ := rsure_filter h.2 k
   have hs : surely k x = false := DF ye
   simp only [List.takeWhile_cons, DT hx, if_true, List.length_cons, List.take_succ_cons, List.drop_succ_cons, List.filter_cons, hs, Bool.not_false]
   exact ⟨by rw [h1], by rw [h2]; rfl⟩
  ·have hs : surely k x = true := DT ye
   have hall : ∀ y ∈ l, surely k y = true := fun y hy => DT (by have := h.1 y hy; omega)
   have h1 : l.filter (fun y => !surely k y) = [] := List.filter_eq_nil_iff.2 fun y hy => by rw [hall y hy]; simp
   have h2 : l.filter (surely k) = l := List.filter_eq_self.2 hall
   simp only [List.takeWhile_cons, DF hx, Bool.false_eq_true, if_false, List.length_nil, List.take_zero, List.drop_zero, List.filter_cons, hs, Bool.not_true, if_true, h1, h2]
   exact ⟨trivial, trivial⟩
theorem RInv.sure (i : RInv C R) (k : Int) : RInv C (sureR R k) :=
 ⟨⟨sureR_ok i.ok k, i.fit.most, i.fit.cap0, i.fit.cap1, i.fit.cl⟩, i.cl, i.acl, i.cap, i.wcap, i.qs, i.si, i.lok, i.ch, i.sn, i.ahead, ⟨i.rd.1.sublist List.filter_sublist, fun x hx => i.rd.2 x (List.mem_filter.1 hx).1⟩, fun h => i.rw fun e => h ycr⟩
theorem REq.sure (e : REq R n) (i : RInv C R) (k : Int) : Goes n (n.sure k) (sureR R k) (sureS R k) := by
 obtain ⟨h1, h2⟩ := rsure_filter i.rd.1 k
 unfold NdM.sure sureR sureS rsure
 rw [e.rds, h1, h2]
 exact ⟨⟨e.id, e.ch, e.since, e.whole, e.log, e.done, e.sent, e.limit, e.have_, e.linked, e.adm, Z, e.st, e.bs⟩, Z⟩
theorem RInv.base (i : RInv C R) (k : Int) : RInv C (baseR R k) :=
 ⟨⟨baseR_ok i.ok k, i.fit.most, i.fit.cap0, i.fit.cap1, i.fit.cl⟩, i.cl, i.acl, i.cap, i.wcap, i.qs, i.si, i.lok, i.ch, i.sn, i.ahead, i.rd, i.rw⟩
theorem RInv.take (i : RInv C R) (hr : R.rds.last < 100000000) (from_ : Int) (f : FrameM) (ms : List MemM) (now : Int) : RInv C (takeR R from_ f ms now).1 := by
 have hcl := i.fit.cl
 unfold takeR
 split
 ·split
  ·exact i
  split
  ·exact i
  rename_i h1 h2
  split
  ·exact i.read hr f now ye ye
  ·exact i.update f now
 split
 ·split
  ·rename_i h; exact i.enter (chE_ok.1 h.1.2)
  ·exact i
 split
 ·split
  ·exact i.forward _
  ·exact i
 split
 ·split
  ·exact i.ack f
  ·exact i
 split
 ·split
  ·exact (i.base _).become
  ·exact i
 split
 ·split
  ·exact i.sure _
  ·exact i
 ·exact i
theorem reads_same (o : OpM) : readsM o = Rep.readsB o := by
 unfold readsM Rep.readsB
 rw [Bool.eq_iff_iff]; simp
theorem REq.take (e : REq R n) (i : RInv C R) (from_ : Int) (f : FrameM) (ms : List MemM) {now : Int} (h0 : 0 ≤ now) : REq (takeR R from_ f ms now).1 (n.take C from_ f ms now) ∧ (n.take C from_ f ms now).out = (takeR R from_ f ms now).2 := by
 have e0 : REq R { n with out := [] } := e.out []
 obtain ⟨m, hm⟩ : ∃ m : NdM, m = { n with out := [] } := ⟨_, rfl⟩
 have ho : m.out = [] := by rw [hm]
 rw [← hm] at e0
 have hnow : nowV now = now := by unfold nowV; rw [if_neg ye]
 suffices h : Goes m (m.take0 C from_ f ms now) (takeR R from_ f ms now).1 (takeR R from_ f ms now).2 by
  unfold NdM.take
  rw [← hm, hnow]
  exact ⟨h.1, by rw [h.2, ho]; rfl⟩
 have same : Goes m m R [] := Goes.none e0 rfl
 have hown : ∀ x : Int, (m.own from_ f = true ∧ from_ = x) → 0 ≤ from_ ∧ R.knownB f = true ∧ 0 ≤ m.place ∧ from_ = x := fun x h => by
  have := h.1
  simp only [NdM.own, Bool.and_eq_true, decide_eq_true_eq] at this
  exact ⟨this.1, by rw [RepM.knownB, ← e0.ch]; exact this.2.1, this.2.2, h.2⟩
 have nb : ∀ x : Int, (x = m.ahead ∨ x = m.next) → ((m.own from_ f = true ∧ from_ = x) ↔ (R.knownB f = true ∧ isNodeB from_ x = true)) := fun x hx => by
  constructor
  ·intro h
   obtain ⟨a1, a2, a3, a4⟩ := hown x h
   refine ⟨a2, ?_⟩
   rw [isNodeB, Bool.and_eq_true, decide_eq_true_eq, beq_iff_eq]
   exact ⟨by omega, a4⟩
  ·rintro ⟨a1, a2⟩
   rw [isNodeB, Bool.and_eq_true, decide_eq_true_eq, beq_iff_eq] at a2
   have hp : 0 ≤ m.place := by
    rcases hx with rfl | rfl
    ·have := a2.1
     unfold NdM.ahead NdM.at_ at this
     by_cases h : m.place < 0
     ·rw [if_pos (.inl h)] at this; exact absurd this yy
     ·omega
    ·have := a2.1
     unfold NdM.next NdM.at_ at this
     by_cases h : m.place < 0
     ·rw [if_pos (.inl h)] at this; exact absurd this yy
     ·omega
   refine ⟨?_, a2.2⟩
   rw [NdM.own, DT (show 0 ≤ from_ by omega), DT hp, e0.ch]
   rw [RepM.knownB] at a1
   rw [a1]; rfl
 unfold NdM.take0 takeR
 split
 ·rw [i.cl]
  by_cases c1 : f.client < 0
  ·rw [if_pos (.inl c1), if_pos c1]; exact same
  rw [if_neg c1]
  by_cases c2 : R.clients ≤ f.client
  ·rw [if_pos (.inr c2), if_pos c2]; exact same
  rw [if_neg (fun h => h.elim c1 c2), if_neg c2, reads_same]
  split
  ·exact e0.read i f now
  ·exact e0.update i f now
 split
 ·rename_i k8
  by_cases c : m.enters from_ f ms
  ·rw [if_pos c, if_pos ⟨⟨c.2.1, c.2.2.2⟩, by rw [← e0.ch]; exact c.2.2.1⟩]
   exact e0.enter i (chE_ok.1 c.2.2.2)
  ·rw [if_neg c, if_neg (fun h => c ⟨k8, h.1.1, by rw [e0.ch]; exact h.2, h.1.2⟩)]; exact same
 split
 ·have := nb m.ahead (.inl rfl)
  rw [e0.ahead i] at this ⊢
  by_cases c : m.own from_ f = true ∧ from_ = R.prevM
  ·rw [if_pos c, if_pos (this.1 c)]; exact e0.forward i _
  ·rw [if_neg c, if_neg (fun h => c (this.2 h))]; exact same
 split
 ·have := nb m.next (.inr rfl)
  rw [e0.next i] at this ⊢
  by_cases c : m.own from_ f = true ∧ from_ = R.nextM
  ·rw [if_pos c, if_pos (this.1 c)]; exact e0.ack i _
  ·rw [if_neg c, if_neg (fun h => c (this.2 h))]; exact same
 split
 ·have := nb m.ahead (.inl rfl)
  rw [e0.ahead i] at this ⊢
  by_cases c : m.own from_ f = true ∧ from_ = R.prevM
  ·rw [if_pos c, if_pos (this.1 c)]
   have e1 : REq (baseR R f.index) { m with bs := f.index } := ⟨e0.id, e0.ch, e0.since, e0.whole, e0.log, e0.done, e0.sent, e0.limit, e0.have_, e0.linked, e0.adm, e0.rds, e0.st, rfl⟩
   have g := e1.becomes (i.base f.index)
   exact ⟨g.1, g.2⟩
  ·rw [if_neg c, if_neg (fun h => c (this.2 h))]; exact same
 split
 ·by_cases c : m.own from_ f = true ∧ from_ = 16
  ·obtain ⟨a1, a2, a3, a4⟩ := hown 16 c
   rw [if_pos c, if_pos ⟨a2, a4⟩]; exact e0.sure i _
  ·rw [if_neg c]
   by_cases c2 : R.knownB f = true ∧ from_ = 16
   ·rw [if_pos c2]
    have hin : ¬ 0 < R.since := fun h => c ⟨by
     have hp := i.in_.1.1 h
     rw [← e0.place i] at hp
     have a1 := c2.1
     rw [RepM.knownB] at a1
     rw [NdM.own, DT (show 0 ≤ from_ by omega), DT hp, e0.ch, a1]; rfl, c2.2⟩
    have hl : R.rds.l = [] := Decidable.byContradiction fun h => hin (i.rw h).2
    have e1 : sureR R f.index = R := by
     have e2 : ({ R.rds with l := R.rds.l.filter (surely f.index) } : RdsM) = R.rds := by rw [hl]; show (⟨R.rds.cap, R.rds.last, []⟩ : RdsM) = R.rds; rw [← hl]
     show ({ R with rds := { R.rds with l := R.rds.l.filter (surely f.index) } } : RepM) = R
     rw [e2]
    have e2 : sureS R f.index = [] := by rw [sureS, hl]; rfl
    show Goes m m (sureR R f.index) (sureS R f.index)
    rw [e1, e2]; exact same
   ·rw [if_neg c2]; exact same
 ·exact same
end
end Nd
namespace Nd
open Go Vg Api Kv Ch Lg Rd Win Adm Sched Conf Rep Ref16 Rk
section
variable {C : ConfM} {R : RepM} {n : NdM}
theorem RInv.expR (i : RInv C R) (now : Int) : RInv C (expR R now) :=
 ⟨⟨expR_ok i.ok now, i.fit.most, i.fit.cap0, i.fit.cap1, i.fit.cl⟩, i.cl, i.acl, i.cap, i.wcap, i.qs, i.si, i.lok, i.ch, i.sn, i.ahead, ⟨i.rd.1.sublist List.filter_sublist, fun x hx => i.rd.2 x (List.mem_filter.1 hx).1⟩, fun h => i.rw fun e => h ycr⟩
theorem RInv.nextA (i : RInv C R) (now : Int) : RInv C (nextA R now) := i.adm' (AG.next i.ok.wf i.si now) (next_wf i.ok.wf now) (next_calls i.ok.wf i.ok.calls now)
theorem serve_e (R : RepM) (now : Int) (h : R.win.room = true) (hl : R.win.last = R.log.length) : fwdB (Rep.nextA R now) (nextE R now) = true := by
 simp only [WinM.room, Bool.and_eq_true, decide_eq_true_eq] at h
 unfold fwdB
 rw [Bool.and_eq_true, beq_iff_eq, decide_eq_true_eq]
 refine ⟨?_, ?_⟩
 ·show (R.log.length : Int) + 1 = R.win.last + 1; omega
 ·show 0 < max (min (R.win.done + R.win.cap) 4096 - R.win.last) 0; omega
theorem RInv.serve (i : RInv C R) (hr : R.win.room = true) (now : Int) : RInv C (serveR R now).1 := by
 have i1 := i.nextA now
 unfold serveR
 split
 ·exact i1
 split
 ·exact i1.adm' ((AG.refl i1.si).bar _ _ _) (i1.ok.wf.barM _ _ _) (barM_calls i1.ok.calls _ _ _)
 ·rename_i h; exact (i1.pushE (serve_e R now hr i.ok.last) ybf).finish
theorem REq.servesB (e : REq R n) (i : RInv C R) : n.servesB C = (Rep.servesB R && R.win.room) := by
 have hl := e.len i
 unfold NdM.servesB Rep.servesB WinM.room
 rw [e.head i, e.whole, e.drains i, hl, e.done, i.cap, ← i.wcap, Bool.and_assoc, Bool.and_assoc]
 congr 4
 rw [decide_eq_decide]; omega
theorem RInv.loop (now : Int) : ∀ (k : Nat) {R : RepM}, RInv C R → RInv C (serveLoop now k R).1
 | 0, R, i => i
 | k + 1, R, i => by
  unfold serveLoop
  split
  ·rename_i h
   split
   ·exact RInv.loop now k (i.serve h now)
   ·exact i.serve h now
  ·exact i
theorem RInv.step2 (i : RInv C R) (now : Int) : RInv C (step2 R now).1 := by
 unfold Rep.step2
 split
 ·exact RInv.loop now 65 (i.expR now)
 ·exact i.expR now
end
end Nd
namespace Nd
open Go Vg T Api Kv Ch Lg Rd Win Adm Sched Conf Rep Ref16 Rk
theorem first_ok {c : ConfM} (h : c = fitM c) : chOk (firstC c) = true := by
 have hb := conf_bounds h
 obtain ⟨n, hn, h1, h6⟩ : ∃ n : Nat, c.chain = n ∧ 1 ≤ n ∧ n ≤ 6 := ⟨c.chain.toNat, by omega, by omega, by omega⟩
 unfold firstC
 rw [hn]
 rcases (by omega : n = 1 ∨ n = 2 ∨ n = 3 ∨ n = 4 ∨ n = 5 ∨ n = 6) with rfl | rfl | rfl | rfl | rfl | rfl <;> decide
theorem newR_inv {c : ConfM} (h : c = fitM c) (id : Int) (blank : Bool) : RInv c (Rep.newR c id blank) ∧ (Rep.newR c id blank).base = -1 := by
 have hb := conf_bounds h
 have hf := newR_fit h id blank
 have hsi : SI (newA c) := ⟨_, _, _, by have := SInv.start c; rw [← h] at this; exact this⟩
 have hq : (newA c).sch.cls.map ClsM.quantum = c.qs := by
  show (c.qs.map clsNew).map ClsM.quantum = c.qs
  rw [List.map_map]
  exact List.map_id _
 have key : ∀ (C : ChM) (s t : Int) (wh : Bool), ({ newR0 c id with ch := C, since := s, whole := wh, start := t } : RepM).Fit → (C = chZ ∨ chOk C = true) → s = (sinceOf C id).1 → RInv c { newR0 c id with ch := C, since := s, whole := wh, start := t } := fun C s t wh hF hC hs =>
  ⟨hF, rfl, rfl, rfl, rfl, hq, hsi, fun k e he => (by cases he), hC, hs, by show (0 : Int) ≤ 0 + c.window; omega, ⟨.nil, fun x hx => by cases hx⟩, fun h => absurd rfl h⟩
 have h1 := first_ok h
 unfold Rep.newR at hf ⊢
 by_cases hbl : blank = true
 ·rw [if_pos hbl] at hf ⊢
  exact ⟨key chZ 0 (-1) false hf (.inl rfl) (by rw [sinceOf, if_neg (fun e => by rw [chZ_no] at e; cases e.1)]), rfl⟩
 rw [if_neg hbl] at hf ⊢
 by_cases hin : (sinceOf (firstC c) id).2 = true
 ·rw [if_pos hin] at hf ⊢
  exact ⟨key (firstC c) _ 0 true hf (.inr h1) Z, Z⟩
 ·rw [if_neg hin] at hf ⊢
  exact ⟨key (firstC c) 0 (-1) false hf (.inr h1) (since_zero (by simpa using hin)).symm, Z⟩
def ofNd (R : RepM) (x : NdS) : NdM := ⟨R.id, R.ch, R.since, R.whole, x.st, x.bs, R.log, R.win.done, R.win.sent, R.win.limit, R.have_, R.adm, R.rds, R.linked, []⟩
theorem ofNd_eq {R : RepM} {x : NdS} (h : ndOk R x) (hb : R.base = -1) : REq R (ofNd R x) :=
 ⟨rfl, rfl, rfl, rfl, rfl, rfl, rfl, rfl, rfl, rfl, ⟨rfl, rfl, rfl⟩, rfl, h.1, by have := h.2.1 hb; show R.base = max x.bs (-1); omega⟩
theorem Imp.nd0 {p : Nat} {C : ConfM} {ca : Option Addr} {cc : Nat} {R : RepM} {x : NdS} {M N : List HP} (h : Imp M N) : Imp (ndL p C ca cc R x ++ M) (Nd.nm0 p C ca cc (x.a, x.c) (ofNd R x) :: slH memT 2 x.a R.ch.ms.length x.c (flat memC R.ch.ms) :: N) :=
 Imp.nm0 (n := ofNd R x) (m := (x.a, x.c)) (⟨x.lp, x.ap, x.rp, x.oa, x.oc⟩, x.on) (IP 0 rfl (IP 1 rfl (IP 1 rfl (IP 1 rfl (IP 0 rfl h)))))
section
variable {C : ConfM} {R : RepM} {n : NdM} {B : Int}
theorem REq.ok (e : REq R n) (i : RInv C R) : NdOk C n := by
 have o := i.ok
 have w := o.win
 have hl := e.len i
 have hm : n.adm.marks.length = 6 := by rw [e.adm.marks]; exact o.wf.marks
 refine ⟨by rw [e.ch]; exact o.ch.len, by have := w.last1; omega, fun k x hx => ?_, by rw [e.log]; exact o.logc, ⟨?_, hm, ?_, by rw [e.adm.sch]; exact i.qs⟩, ?_, ?_, ?_, ?_, ?_, ?_, ?_, ?_, ?_, ?_, ?_, ?_⟩
 ·rw [e.log] at hx; exact i.lok.idx hx
 ·rw [e.adm.cl, i.acl]; exact i.cl
 ·rw [e.adm.cl]; exact o.wf.c1
 ·intro q hq f hf
  have hq : q ∈ R.adm.sch.qs := by rw [← e.adm.sch]; exact hq
  rw [e.adm.cl]; exact o.calls q hq f hf
 ·rw [e.done]; exact w.done0
 ·rw [e.done, hl]; exact w.done1
 ·rw [e.sent]; exact w.sent0
 ·rw [e.sent, hl]; exact w.sent1
 ·rw [i.cap]; exact i.fit.cap0
 ·rw [i.cap]; exact i.fit.cap1
 ·rw [e.rds]; have := o.rl; have := o.rc1; omega
 ·rw [e.rds]; exact o.rc1
 ·rw [e.rds]; exact o.rn0
 ·rw [e.rds]; exact o.rn1
 ·rw [e.rds]; exact o.rcl
theorem REq.nw (e : REq R n) (i : RInv C R) (h : few R.adm.sch B) : NdW C B n := ⟨e.ok i, by rw [e.adm.sch]; exact i.ok.wf.sch, by rw [e.adm.sch]; exact h⟩
theorem few_push {S : SchM} (h : few S B) (f : FrameM) : few (S.pushM f).2 B := by
 unfold SchM.pushM
 cases hc : S.at_ f.cls with
 | none => exact h
 | some c =>
  dsimp only
  split
  ·exact h
  split
  ·unfold SchM.at_ at hc
   split at hc
   ·exact few_set h (h c (ME hc))
   ·cases hc
  ·exact h
theorem few_offer {A : AdmM} (h : few A.sch B) (f : FrameM) (now : Int) : few (A.offerM f now).2.sch B := by
 by_cases h0 : (A.offerM f now).1 = 0
 ·obtain ⟨hm, hb, hz, hd, hp, e⟩ := offer_in h0
  rw [e]; exact few_push h f
 ·rw [(offer_not now h0).1]; exact h
theorem few_update (h : few R.adm.sch B) (f : FrameM) (now : Int) : few (updateR R f now).1.adm.sch B := by
 obtain ⟨A, hA, h2, _⟩ := upd_form R f now
 rw [hA]
 show few A.sch B
 rcases h2 with rfl | rfl | ⟨k, s, t, rfl | rfl⟩
 ·exact h
 ·exact few_offer h f now
 ·rw [barM_sch]; exact h
 ·rw [barM_sch]; exact few_offer h f now
theorem few_take (i : RInv C R) (h : few R.adm.sch B) (from_ : Int) (f : FrameM) (ms : List MemM) (now : Int) : few (takeR R from_ f ms now).1.adm.sch B := by
 unfold takeR
 split
 ·split
  ·exact h
  split
  ·exact h
  split
  ·unfold readR; split <;> exact h
  ·exact few_update h f now
 split
 ·split
  ·have e : (enterR R (frCh f ms)).1.adm = R.adm.expireM maxI := by
    show (Rep.ent5 R (frCh f ms)).finishR.adm = _
    unfold RepM.finishR
    split <;> (unfold Rep.ent5; split <;> rfl)
   rw [e, (expire_wf i.ok.wf maxI).2.2]
   exact few_exp h _
  ·exact h
 split
 ·split
  ·unfold forwardR
   split
   ·show few (Rep.pushE R f.entry).finishR.becomeR.adm.sch B
    unfold RepM.becomeR
    split <;> (unfold RepM.finishR; split <;> exact h)
   ·exact h
  ·exact h
 split
 ·split
  ·show few (Rep.ack2 R f).adm.sch B
   unfold Rep.ack2 Rep.ack1; dsimp only; split <;> exact h
  ·exact h
 split
 ·split
  ·unfold RepM.becomeR; split <;> exact h
  ·exact h
 split
 ·split <;> exact h
 ·exact h
theorem few_new (c : ConfM) (id : Int) (blank : Bool) : few (Rep.newR c id blank).adm.sch 0 := by
 have h : few (newA c).sch 0 := fun x hx => by
  obtain ⟨q, _, rfl⟩ := List.mem_map.1 hx
  exact Int.le_refl _
 unfold Rep.newR
 split
 ·exact h
 split <;> exact h
theorem last_take (i : RInv C R) (from_ : Int) (f : FrameM) (ms : List MemM) (now : Int) : (takeR R from_ f ms now).1.rds.last ≤ R.rds.last + 1 := by
 have h : ∀ Q : RepM, Q.rds.last = R.rds.last → Q.rds.last ≤ R.rds.last + 1 := fun Q h => by omega
 unfold takeR
 split
 ·split
  ·exact h _ rfl
  split
  ·exact h _ rfl
  split
  ·unfold readR
   split
   ·exact h _ rfl
   ·show (R.rds.put _ _).last ≤ _
    unfold RdsM.put; split
    ·exact Int.le_refl _
    ·omega
  ·refine h _ ?_
   obtain ⟨A, hA, _⟩ := upd_form R f now
   rw [hA]
 split
 ·split
  ·refine h _ ?_
   show (Rep.ent5 R (frCh f ms)).finishR.rds.last = _
   unfold RepM.finishR
   split <;> (unfold Rep.ent5; split <;> rfl)
  ·exact h _ rfl
 split
 ·split
  ·refine h _ ?_
   unfold forwardR
   split
   ·show (Rep.pushE R f.entry).finishR.becomeR.rds.last = _
    unfold RepM.becomeR
    split <;> (unfold RepM.finishR; split <;> rfl)
   ·rfl
  ·exact h _ rfl
 split
 ·split
  ·refine h _ ?_
   show (Rep.ack2 R f).rds.last = _
   unfold Rep.ack2 Rep.ack1; dsimp only; split <;> rfl
  ·exact h _ rfl
 split
 ·split
  ·refine h _ ?_; unfold RepM.becomeR; split <;> rfl
  ·exact h _ rfl
 split
 ·split <;> exact h _ rfl
 ·exact h _ rfl
end
end Nd
end Go.Proofs.YtbbnmgakmcppdaaGreat
