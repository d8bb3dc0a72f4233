/- Texts of the proof, put together and shortened. No condition. -/
import Derived.Test.YtbbnmgakmcppdaaGreatZw3
set_option maxRecDepth 100000
set_option maxHeartbeats 16000000
set_option linter.unusedVariables false
set_option linter.unusedSectionVars false
set_option linter.unusedSimpArgs false
namespace Go.Proofs.YtbbnmgakmcppdaaGreat
variable (Fr : Nat → Prop) (w : World)
namespace Nd
open Go Vg T Api Kv Ch Lg Rd Win Adm Sched Conf Rep Ref16 Rk
attribute [local irreducible] VO VC VA
abbrev ndT : TypeId := 87
abbrev radT : TypeId := 171
abbrev rrdsT : TypeId := 167
abbrev rrdT : TypeId := 151
def radCs (C : ConfM) (ca : Option Addr) (cc : Nat) (A : AdmM) (sp : Nat) : List Value := C.cells ca cc ++ (.pointer (some ⟨sp, 0, none⟩) :: ((A.marks.map fun m => .int .i64 m.1) ++ (A.marks.map fun m => .int .i64 m.2)))
def radL (p : Nat) (C : ConfM) (ca : Option Addr) (cc : Nat) (A : AdmM) (sp : Nat) : List HP := [pt p (radCs C ca cc A sp) radT, rfH sp ca A.sch]
def radH (p : Nat) (C : ConfM) (ca : Option Addr) (cc : Nat) (A : AdmM) : HP := hex fun sp => hsep (radL p C ca cc A sp)
theorem HOpn.rad (p : Nat) (C : ConfM) (ca : Option Addr) (cc : Nat) (A : AdmM) : HOpn (ι := Nat) (radH p C ca cc A) (fun _ => True) (fun x => radL p C ca cc A x) := fun w ids ⟨x, h⟩ hn => ⟨x, trivial, ids, h, hn, fun _ h => h⟩
theorem Imp.rad {p : Nat} {C : ConfM} {ca : Option Addr} {cc : Nat} {A : AdmM} {L M : List HP} (x : Nat) (h : Imp L (radL p C ca cc A x ++ M)) : Imp L (radH p C ca cc A :: M) :=
 Imp.ex (f := fun x => hsep (radL p C ca cc A x)) x (Imp.sep (Ls := radL p C ca cc A x) h)
def rrdsOk (R : RdsM) (r : RL RdR) : Prop := r.Ok rdC 34 ∧ r.xs.map Prod.fst = R.l
def rrdsL (p : Nat) (R : RdsM) (r : RL RdR) : List HP := [pt p [.int .i64 R.cap, .slice r.addr r.xs.length r.cap, .int .i64 R.last] rrdsT, r.h rrdT]
def rrdsH (p : Nat) (R : RdsM) : HP := hex fun r => hsep (hpure (rrdsOk R r) :: rrdsL p R r)
theorem HOpn.rrds (p : Nat) (R : RdsM) : HOpn (rrdsH p R) (fun r => rrdsOk R r) (fun r => rrdsL p R r) := by
 rintro w ids ⟨s, h⟩ hn
 obtain ⟨F, G, rfl, ⟨rfl, h1⟩, h2⟩ := h
 exact xgq
theorem Imp.rrds {p : Nat} {R : RdsM} {L M : List HP} (r : RL RdR) (hr : rrdsOk R r) (h : Imp L (rrdsL p R r ++ M)) : Imp L (rrdsH p R :: M) :=
 Imp.ex (f := fun r => hsep (hpure (rrdsOk R r) :: rrdsL p R r)) r (Imp.sep (Ls := hpure (rrdsOk R r) :: rrdsL p R r) (Imp.pure hr h))
structure NdS where
 a : Option Addr
 c : Nat
 st : Int
 bs : Int
 lp : Nat
 ap : Nat
 rp : Nat
 oa : Option Addr
 on : Nat
 oc : Nat
def ndCs (C : ConfM) (ca : Option Addr) (cc : Nat) (R : RepM) (x : NdS) : List Value := C.cells ca cc ++ (.int .i64 R.id :: (R.ch.cells x.a x.c ++ [.int .i64 R.since, .bool R.whole, .int .i64 x.st, .int .i64 x.bs, .pointer (some ⟨x.lp, 0, none⟩), .int .i64 R.win.done, .int .i64 R.win.sent, .int .i64 R.win.limit, .int .i64 R.have_, .pointer (some ⟨x.ap, 0, none⟩), .pointer (some ⟨x.rp, 0, none⟩), .bool R.linked, .slice x.oa x.on x.oc]))
def ndOk (R : RepM) (x : NdS) : Prop := (R.whole = true → x.st = R.start) ∧ (R.base = -1 → x.bs < 0) ∧ (R.base ≠ -1 → x.bs = R.base)
def ndL (p : Nat) (C : ConfM) (ca : Option Addr) (cc : Nat) (R : RepM) (x : NdS) : List HP := [pt p (ndCs C ca cc R x) ndT, slH memT 2 x.a R.ch.ms.length x.c (flat memC R.ch.ms), rlogH x.lp R.log, radH x.ap C ca cc R.adm, rrdsH x.rp R.rds]
def ndH (p : Nat) (C : ConfM) (ca : Option Addr) (cc : Nat) (R : RepM) : HP := hex fun x => hsep (hpure (ndOk R x) :: ndL p C ca cc R x)
theorem HOpn.nd (p : Nat) (C : ConfM) (ca : Option Addr) (cc : Nat) (R : RepM) : HOpn (ndH p C ca cc R) (fun x => ndOk R x) (fun x => ndL p C ca cc R x) := by
 rintro w ids ⟨s, h⟩ hn
 obtain ⟨F, G, rfl, ⟨rfl, h1⟩, h2⟩ := h
 exact xgq
theorem Imp.nd {p : Nat} {C : ConfM} {ca : Option Addr} {cc : Nat} {R : RepM} {L M : List HP} (x : NdS) (hx : ndOk R x) (h : Imp L (ndL p C ca cc R x ++ M)) : Imp L (ndH p C ca cc R :: M) :=
 Imp.ex (f := fun x => hsep (hpure (ndOk R x) :: ndL p C ca cc R x)) x (Imp.sep (Ls := hpure (ndOk R x) :: ndL p C ca cc R x) (Imp.pure hx h))
theorem rrnew_spec {n : Int} (h0 : 1 ≤ n) (h1 : n ≤ 16) : Tri Tryz.prog 77 [.int .i64 n] Fr w [] (fun v L => ∃ p, v = .tuple #[.pointer (some ⟨p, 0, none⟩), .int .i64 0] ∧ L = [rrdsH p (RdsM.new n)]) := by
 refine TF 13 Tryz.func77 Z ym tabOk Z Z ?_
 refine zrz ?_
 refine xel ?_
 refine CP Z (fun h => by omega) (fun _ => CK ?_)
 refine xhm ?_
 refine VG (VI (LB (pv := [(0, .int .i64 n)]) [.int .i64 n, .slice none 0 0, .int .i64 0] Z Z Z ym Z) ?_)
 refine VG (VB (vs := [.int .i64 n, .slice none 0 0, .int .i64 0]) Z fun p => ?_)
 refine xdy ?_
 exact CR (Ret.tmp2 2 3 Z Z Z (Imp.rrds RL.none ⟨RL.none_ok, Z⟩ (IP 0 Z (Imp.pure trivial Imp.nil))).ent ⟨p, Z, Z⟩)
theorem ranew_spec (c : ConfM) (a : Option Addr) (cap : Nat) (hq : IntsIn Fr w a c.qs) (hf : c = fitM c) : Tri Tryz.prog 76 [.agg (c.cells a cap).toArray] Fr w []
  (fun v L => ∃ p, v = .tuple #[.pointer (some ⟨p, 0, none⟩), .int .i64 0] ∧ L = [radH p c a cap (newA c)]) := by
 obtain ⟨hno, hc0, hc1⟩ := conf_new hf
 have hq4 : c.qs.length ≤ 4 := by
  have h2 : c.qs = qFit c.qs := congrArg ConfM.qs hf
  have := qFit_len c.qs
  rw [← h2] at this; omega
 refine TF 24 Tryz.func76 Z ym tabOk Z Z ?_
 refine CS (CG (VG (VB (vs := c.cells a cap) Z fun x => ?_)))
 refine zpj ?_
 refine VG (VV (fun Fr w hF hs _ => rcheck_spec Fr w c a cap (ints_of hq hF hs) yd) Z ?_)
 rw [show checkM c = 0 by rw [checkM, if_pos hf]]
 refine zps ?_
 refine VG (VK (Lc := []) (fun Fr w hF hs _ => Ref16.new_spec Fr w a cap c.qs c.queue (ints_of hq hF hs) yd) Z Z ?_)
 intro v L hv
 unfold newRf at hv
 rw [if_pos hno] at hv
 obtain ⟨sp, rfl, rfl⟩ := hv
 refine zph ?_
 refine xhm ?_
 refine xgj ?_
 refine VG (VI (LB (pv := [(0, .agg (c.cells a cap).toArray), (1, pV sp)]) (radCs c a cap (newA c) sp) Z Z Z ym Z) ?_)
 refine VG (VB (vs := radCs c a cap (newA c) sp) Z fun p => ?_)
 refine xdy ?_
 exact CR (Ret.tmp2 2 3 Z Z Z (Imp.rad sp (IP 0 Z (IP 0 Z Imp.nil))).ent ⟨p, Z, Z⟩)
def ndZ (lp ap rp : Nat) : NdS := ⟨none, 0, 0, -1, lp, ap, rp, none, 0, 0⟩
theorem rnew_spec (c : ConfM) (a : Option Addr) (cap : Nat) (hq : IntsIn Fr w a c.qs) (hl : c.qs.length ≤ 1000) (id : Int) (blank : Bool) : Tri Tryz.prog 25 [.agg (c.cells a cap).toArray, .int .i64 id, .bool blank] Fr w []
  (fun v L => if newOkB c id then ∃ p, v = .tuple #[.pointer (some ⟨p, 0, none⟩), .int .i64 0] ∧ L = [ndH p c a cap (Rep.newR c id blank)] else v = .tuple #[.pointer none, .int .i64 2] ∧ L = []) := by
 refine TF 75 Tryz.func25 Z ym tabOk Z Z ?_
 refine CS (CG (VG (VB (vs := c.cells a cap) Z fun x => ?_)))
 refine zpj ?_
 refine VG (VK (Lc := []) (fun Fr w hF hs _ => rfirst_spec Fr w c a cap (ints_of hq hF hs) hl) Z Z ?_)
 intro v L hv
 by_cases hf : c = fitM c
 rotate_left
 ·rw [if_neg hf] at hv
  obtain ⟨rfl, rfl⟩ := hv
  refine xdy ?_
  refine VG (VO.alloc Z fun d => ?_)
  refine xkm ?_
  refine xdy ?_
  refine VG (VY 22 true Z Z ?_)
  refine xel ?_
  refine VG (VY 26 true Z Z ?_)
  refine zpl ?_
  refine xkq ?_
  rw [if_neg (fun h => hf h.1)]; exact ⟨rfl, rfl⟩
 rw [if_pos hf] at hv
 obtain ⟨ma, mc, rfl, rfl⟩ := hv
 have hb := conf_bounds hf
 refine xdy ?_
 refine VG (VO.alloc Z fun d => ?_)
 refine VG (VT (vs := (firstC c).cells ma mc) (cs' := (firstC c).cells ma mc) 0 Z Z Z Z (NR _) Z Z Z ?_)
 refine xdy ?_
 refine VG (VY 22 false Z Z ?_)
 refine xel ?_
 by_cases h1 : id < 0
 ·refine VG (VY 26 true Z (DT h1) ?_)
  refine zpl ?_
  refine xkq ?_
  rw [if_neg (fun h => by have := h.2.1; omega)]; exact ⟨rfl, rfl⟩
 refine VG (VY 26 false Z (DF h1) ?_)
 refine xgd ?_
 refine CP (p := c.nodes ≤ id) Z (fun h2 => ?_) (fun h2 => CK ?_)
 ·refine xdy ?_
  refine xkq ?_
  rw [if_neg (fun h => by have := h.2.2; omega)]; exact ⟨rfl, rfl⟩
 have hok : newOkB c id := ⟨hf, by omega, by omega⟩
 refine xhm ?_
 refine xlx ?_
 refine VG (VK (Lc := []) (fun Fr w hF hs _ => ranew_spec Fr w c a cap (ints_of hq hF hs) hf) Z Z ?_)
 rintro _ _ ⟨ap, rfl, rfl⟩
 refine xly ?_
 refine VG (VK (Lc := []) (fun Fr w hF hs _ => rrnew_spec Fr w hb.2.2.2.1.1 hb.2.2.2.1.2) Z Z ?_)
 rintro _ _ ⟨rp, rfl, rfl⟩
 refine xdy ?_
 refine VG (VY 45 false Z Z ?_)
 refine zpn ?_
 refine CS (CD (ts 0 2 (.take 3 (.take 4 (.only 2 (.take 5 (.only 6 (.take 7 .nil))))))) ym yq ?_)
 refine VA.go (VA.ldA 4 (c.cells a cap) Z Z Z Z Z ?_)
 refine xeh ?_
 refine VA.go (AO (OC (Lc := []) (R := fun v L => ∃ p, v = .pointer (some ⟨p, 0, none⟩) ∧ L = [rlogH p []]) Z (.refl _) (fun Fr w hF hs hS => rlnew_spec Fr w)) Z ?_ ?_)
 ·rintro _ _ ⟨_, ⟨lp, rfl, rfl⟩, rfl⟩
  exact yr
 rintro _ _ ⟨_, ⟨lp, rfl, rfl⟩, rfl⟩
 refine VA.go (AI Z (LB (pv := [(0, .agg (c.cells a cap).toArray), (1, .int .i64 id), (6, .int .i64 (-1)), (7, pV lp), (12, pV ap), (13, pV rp)]) (ndCs c a cap (newR0 c id) (ndZ lp ap rp)) Z Z Z ym Z) ?_)
 refine VA.go (AO (OpT.box (vs := ndCs c a cap (newR0 c id) (ndZ lp ap rp)) Z Z) Z ?_ ?_)
 ·rintro _ _ ⟨np, rfl, rfl⟩
  exact yr
 rintro _ _ ⟨np, rfl, rfl⟩
 refine xeh ?_
 have hlen : (firstC c).ms.length = c.chain.toNat := firstMs_len _
 cases blank with
 | true =>
  refine CS (CS (CG (VG (VN ?_))))
  refine xed ?_
  refine xdy ?_
  refine CR (Ret.tmp2 6 7 Z Z Z (L' := [ndH np c a cap (Rep.newR c id true)]) ?_ ?_)
  ·refine (Imp.nd (ndZ lp ap rp) ⟨(fun h => by cases h), (fun _ => by show (-1 : Int) < 0; decide), fun h => absurd rfl h⟩ ?_).ent
   exact IP 0 Z (Imp.slNil (pkZ [0, 1, 0]))
  ·rw [if_pos hok]; exact ⟨np, rfl, rfl⟩
 | false =>
  refine CS (CS (CG (VG (VN ?_))))
  refine xem ?_
  refine xhm ?_
  refine VG (VL 4 ((firstC c).cells ma mc) Z Z Z Z ?_)
  refine VG (VT (vs := (firstC c).cells ma mc) (cs' := ndCs c a cap { newR0 c id with ch := firstC c } { ndZ lp ap rp with a := ma, c := mc }) 0 Z Z Z Z (by show 13 + 3 ≤ 29; omega) Z Z Z ?_)
  refine xgk ?_
  refine CG ?_
  refine VG (VL 4 ((firstC c).cells ma mc) Z Z Z Z ?_)
  refine VG (VV (fun Fr w hF hs hS => rsince_spec Fr w (RwIn.slH memC_len (hS.at_ 5 Z)) yd id) Z ?_)
  refine VG (VO.st 0 (cs' := ndCs c a cap { newR0 c id with ch := firstC c, since := (sinceOf (firstC c) id).1 } { ndZ lp ap rp with a := ma, c := mc }) Z Z Z Z (by show 16 < 29; omega) Z Z ?_)
  refine VG (VO.st 0 (cs' := ndCs c a cap { newR0 c id with ch := firstC c, since := (sinceOf (firstC c) id).1, whole := (sinceOf (firstC c) id).2 } { ndZ lp ap rp with a := ma, c := mc }) Z Z Z Z ycd Z Z ?_)
  refine xdy ?_
  refine CR (Ret.tmp2 6 7 Z Z Z (L' := [ndH np c a cap (Rep.newR c id false)]) ?_ ?_)
  ·have e : ndCs c a cap { newR0 c id with ch := firstC c, since := (sinceOf (firstC c) id).1, whole := (sinceOf (firstC c) id).2 } { ndZ lp ap rp with a := ma, c := mc } = ndCs c a cap (Rep.newR c id false) { ndZ lp ap rp with a := ma, c := mc } := by
    unfold Rep.newR
    rw [if_neg ya]
    by_cases hs : (sinceOf (firstC c) id).2 = true
    ·rw [if_pos hs, hs]; rfl
    ·rw [if_neg hs]
     have h2 : (sinceOf (firstC c) id).2 = false := by simpa using hs
     have h1 : (sinceOf (firstC c) id).1 = 0 := by
      unfold sinceOf at h2 ⊢
      split
      ·rename_i hh; rw [if_pos hh] at h2; cases h2
      ·rfl
     rw [h1, h2]; rfl
   have e2 : (Rep.newR c id false).ch = firstC c ∧ (Rep.newR c id false).log = [] ∧ (Rep.newR c id false).adm = newA c ∧ (Rep.newR c id false).rds = RdsM.new c.reads ∧ (Rep.newR c id false).base = -1 ∧ ((Rep.newR c id false).whole = true → (Rep.newR c id false).start = 0) := by
    unfold Rep.newR
    rw [if_neg ya]
    split
    ·exact ⟨rfl, Z, Z, Z, Z, fun _ => rfl⟩
    ·exact ⟨rfl, rfl, rfl, rfl, rfl, fun h => by cases h⟩
   rw [e]
   generalize Rep.newR c id false = Q at e2 ⊢
   obtain ⟨e3, e4, e5, e6, e7, e8⟩ := e2
   refine (Imp.nd { ndZ lp ap rp with a := ma, c := mc } ⟨fun h => (e8 h).symm, fun _ => by show (-1 : Int) < 0; decide, fun h => absurd e7 h⟩ ?_).ent
   unfold ndL
   rw [e3, e4, e5, e6]
   exact (pkZ [0, 4, 0, 1, 0])
  ·rw [if_pos hok]; exact ⟨np, rfl, rfl⟩
end Nd
namespace Rk
open Go Vg T Api Kv Lg Rd
attribute [local irreducible] VO VC VA
section
variable {p : Nat} {es : List EntryM}
theorem rlres_spec (h : SatIn Fr [rlogH p es] w) (hnum : Num es) (hl : es.length ≤ 5000) (i : Int) (hi0 : -9223372036854775808 < i) (hi1 : i ≤ 9223372036854775807) : Tri Tryz.prog 126 [.pointer (some ⟨p, 0, none⟩), .int .i64 i] Fr w []
  (fun v L => v = .tuple #[.agg (resC ((atI (logRun es).2 i).getD resZ)).toArray, .bool (atI (logRun es).2 i).isSome] ∧ L = []) := by
 obtain ⟨x, hx⟩ := RlogIn.of h
 have hb := hx.blk
 have hrl := logRun_len es
 refine TF 30 Tryz.func126 Z ym tabOk Z Z ?_
 refine CS (CG (VG (VO.alloc Z fun d => ?_)))
 refine xdy ?_
 by_cases h1 : i < 1
 ·refine VG (VY 10 true Z (DT h1) ?_)
  refine zrg ?_
  refine zrj ?_
  exact xln
 refine VG (VY 10 false Z (DF h1) ?_)
 refine xlo ?_
 refine CP (p := (es.length : Int) < i) Z (fun h2 => ?_) (fun h2 => CK ?_)
 ·refine zrj ?_
  exact CR (Ret.cellTmp 4 5 Z Z Z (RdL.many 0 Z Z) Z Imp.nil.ent ⟨by rw [atI_none (.inr (by rw [hrl]; exact h2))]; rfl, Z⟩)
 obtain ⟨k, e, hk, hkl, hke, hat⟩ := atI_some (l := (logRun es).2) (i := i) yd yd
 refine xdy ?_
 refine xlz ?_
 rintro _ _ ⟨r, b, bc, hok, hrl2, hrel, rfl, rfl⟩
 refine xgk ?_
 rw [← hrl]
 refine VC.opn 1 Z (HOpn.rl resT b bc (logRun es).2 resC_len) ?_
 rintro r2 ⟨hok2, hv2, hx2⟩
 obtain ⟨tb, tof, htb, hta, hrd⟩ := RL.Ok.ld (t := resT) hok2 (by rw [hx2]; exact hke) (resC_len e)
 rw [← hv2, show r2.v = .slice r2.addr r2.xs.length r2.cap from rfl, hta]
 refine xdy ?_
 refine xfj ?_
 refine VG (VI (light_idx k Z Z Z Z Z yd (by rw [hx2]; exact hkl)) ?_)
 refine xkg ?_
 refine VG (VT (vs := resC e) (cs' := resC e) 2 Z Z Z Z (NR _) Z Z Z ?_)
 refine xdy ?_
 exact CR (Ret.cellTmp 4 5 Z Z Z (RdL.many (ds := resC e) 2 Z Z) Z Imp.nil.ent ⟨by rw [hat]; rfl, Z⟩)
theorem last_drop {es : List EntryM} {c : Int} {j : Nat} (h : ∀ k e, j ≤ k → es[k]? = some e → e.client ≠ c) : lastOf es c = lastOf (es.take j) c := by
 have key : ∀ n, lastOf (es.take (j + n)) c = lastOf (es.take j) c := by
  intro n
  induction n with
  | zero => rfl
  | succ n ih =>
   by_cases hj : j + n < es.length
   ·rw [← Nat.add_assoc, List.take_add_one, GE hj]
    show lastOf (es.take (j + n) ++ [es[j + n]]) c = _
    rw [lastOf_snoc, if_neg (h (j + n) _ yd (GE hj)), ih]
   ·rw [← ih, List.take_of_length_le yd, List.take_of_length_le yd]
 have := key es.length
 rwa [List.take_of_length_le yd] at this
theorem rllast_spec (h : SatIn Fr [rlogH p es] w) (hnum : Num es) (hl : es.length ≤ 5000) (c : Int) : Tri Tryz.prog 168 [.pointer (some ⟨p, 0, none⟩), .int .i64 c] Fr w []
  (fun v L => v = .tuple #[.int .i64 (lastOf es c).1, .int .i64 (lastOf es c).2] ∧ L = []) := by
 obtain ⟨x, hx⟩ := RlogIn.of h
 have hb := hx.blk
 refine TF 37 Tryz.func168 Z ym tabOk Z Z ?_
 refine xfh ?_
 refine xfj ?_
 refine xdy ?_
 refine VC.loop (σ := Nat) (fun j => [(0, pV p), (1, .int .i64 c), (6, .int .i64 ((j : Int) - 1))]) (fun _ => []) (fun j => j ≤ es.length ∧ ∀ k e, j ≤ k → es[k]? = some e → e.client ≠ c) (fun j => j) es.length
  ⟨NR _, fun k e hk he => by rw [List.getElem?_eq_none hk] at he; cases he⟩ sbZ ER ?_
 rintro j ⟨hj, hno⟩
 refine xdy ?_
 refine CP (p := (0 : Int) ≤ (j : Int) - 1) Z (fun h1 => CK ?_) (fun h1 => CX ?_)
 rotate_left
 ·obtain rfl : j = 0 := by omega
  refine xdy ?_
  exact CR (Ret.tmp2 4 5 Z Z Z ER ⟨by rw [last_drop hno]; rfl, Z⟩)
 obtain ⟨i, rfl⟩ : ∃ i, j = i + 1 := ⟨j - 1, by omega⟩
 have hi2 : i < es.length := by omega
 rw [show ((i + 1 : Nat) : Int) - 1 = (i : Int) from by omega]
 obtain ⟨e, he⟩ : ∃ e, es[i]? = some e := ⟨_, GE hi2⟩
 have hei := hnum i e he
 obtain ⟨mb, mo, hma, ra, rc⟩ := RwIn.rd (X := ⟨Tryz.prog, tab, tabOk, 37, Fr, w⟩) hx.ents he
 have hb2 := hb
 rw [hma] at hb2
 refine xma ?_
 refine xfv ?_
 refine xdy ?_
 refine xgo ?_
 refine xdy ?_
 refine CE (i := e.client) (j := c) Z (fun h2 => ?_) (fun h2 => CK ?_)
 ·refine xma ?_
  refine xfv ?_
  refine xdy ?_
  refine VG (VD Z Z (rc _ _ 2 _ Z Z) ?_)
  refine zpg ?_
  refine CR (Ret.tmp2 4 5 Z Z Z ER ⟨?_, Z⟩)
  rw [last_drop hno, List.take_add_one, he]
  show _ = Value.tuple #[.int .i64 (lastOf (es.take i ++ [e]) c).1, .int .i64 (lastOf (es.take i ++ [e]) c).2]
  rw [lastOf_snoc, if_pos h2, hei]
 ·refine xdy ?_
  refine xfj ?_
  refine xdy ?_
  exact ⟨i, ⟨by omega, fun k e' hk he' => by
   by_cases hki : k = i
   ·subst hki; rw [he] at he'; cases he'; exact h2
   ·exact hno k e' yd he'⟩, by dsimp only; omega, sbZ, ER⟩
theorem rllook_spec (h : SatIn Fr [rlogH p es] w) (hnum : Num es) (hl : es.length ≤ 5000) (k : ByteArray) : Tri Tryz.prog 179 [.pointer (some ⟨p, 0, none⟩), .string k] Fr w []
  (fun v L => v = .agg (resC (kvLook (logRun es).1 k es.length)).toArray ∧ L = []) := by
 obtain ⟨x, hx⟩ := RlogIn.of h
 have hb := hx.blk
 refine TF 20 Tryz.func179 Z ym tabOk Z Z ?_
 refine CS (CG (VG (VO.alloc Z fun d => ?_)))
 refine xdy ?_
 refine xlz ?_
 rintro _ _ ⟨r, b, bc, hok, hrl2, hrel, rfl, rfl⟩
 refine xfh ?_
 refine VG (VV (fun Fr w hF hs hS => Rk.look_spec Fr w (RwIn.rl (hS.at_ 0 Z) hok) yd k es.length) Z ?_)
 rw [look_same hrel]
 refine VG (VT (vs := resC (kvLook (logRun es).1 k es.length)) (cs' := resC (kvLook (logRun es).1 k es.length)) 2 Z Z Z Z (NR _) Z Z Z ?_)
 refine xdy ?_
 exact CR (Ret.cell 4 Z Z Z (RdL.many (ds := resC (kvLook (logRun es).1 k es.length)) 2 Z Z) Imp.nil.ent ⟨rfl, Z⟩)
end
end Rk
namespace Rk
open Go Vg T Api Kv Lg Rd
attribute [local irreducible] VO VC VA
theorem log_num {es : List EntryM} {e : EntryM} (h : Num es) (he : logErr es e = 0) : Num (es ++ [e]) := by
 refine h.snoc ?_
 unfold logErr at he
 repeat' split at he
 all_goals first | cases he | skip
 rename_i _ _ h3 _
 exact Decidable.byContradiction h3
theorem rlapp_spec (p : Nat) (es : List EntryM) (hnum : Num es) (hl : es.length ≤ 4096) (e : EntryM) : Tri Tryz.prog 93 [.pointer (some ⟨p, 0, none⟩), .agg (entC e).toArray] Fr w [rlogH p es]
  (fun v L => (∃ r, v = .tuple #[.agg (resC r).toArray, .int .i64 (logErr es e)]) ∧ L = [rlogH p (logApp es e)]) := by
 refine TF 83 Tryz.func93 Z ym tabOk Z Z ?_
 refine CS (CG (VG (VB (vs := entC e) Z fun eb => VG (VO.alloc Z fun rb => ?_))))
 refine xgk ?_
 have err : ∀ {X : Cx} {E : Env} {fn : Func} {z : Int}, fn.results = #[.cell 4 resT, .tmp 5] → tyLook X.tab resT = some T.t42 → Vg.look E 5 = some (.int .i64 z) → Vg.look E 4 = some (.pointer (some ⟨rb, 0, none⟩)) → logErr es e = z → z ≠ 0 →
   Ret X fn (fun v L => (∃ r, v = .tuple #[.agg (resC r).toArray, .int .i64 (logErr es e)]) ∧ L = [rlogH p (logApp es e)]) E [pt rb (resC resZ) resT, pt eb (entC e) entT, rlogH p es] := fun {X E fn z} h1 h2 h3 h4 h5 h6 =>
  Ret.cellTmp 4 5 h1 h4 h2 (RdL.many 0 rfl rfl) h3 (L' := [rlogH p es]) (IP 2 rfl Imp.nil).ent ⟨⟨resZ, by rw [h5]; rfl⟩, by rw [logApp, if_neg (by rw [h5]; exact h6)]⟩
 refine CS ?_
 refine CS ?_
 refine VC.meetS (σ := Unit) (fun _ => [(0, pV p), (3, pV eb), (4, pV rb), (35, .bool (badE e))]) (fun _ => [pt rb (resC resZ) resT, pt eb (entC e) entT, rlogH p es]) (fun _ => True) ?_ ?_
 ·refine CG ?_
  refine xgf ?_
  by_cases h1 : e.client < 0
  ·have hb : badE e = true := by simp [badE, h1]
   refine VG (VY 14 true Z (DT h1) ?_)
   refine xgf ?_
   refine xew ?_
   refine xgf ?_
   refine xkp ?_
   refine xgf ?_
   refine VG (VY 30 true Z Z ?_)
   refine xgf ?_
   exact xfp
  refine VG (VY 14 false Z (DF h1) ?_)
  refine xgf ?_
  by_cases h2 : 5 < e.client
  ·have hb : badE e = true := by simp [badE, show (6 : Int) ≤ e.client from h2]
   refine VG (VY 19 true Z (DT h2) ?_)
   refine xgf ?_
   refine xkp ?_
   refine xgf ?_
   refine VG (VY 30 true Z Z ?_)
   refine xgf ?_
   exact xfp
  refine VG (VY 19 false Z (DF h2) ?_)
  refine xgf ?_
  by_cases h3 : e.seq < 1
  ·have hb : badE e = true := by simp [badE, h3]
   refine VG (VY 24 true Z (DT h3) ?_)
   refine xgf ?_
   refine VG (VY 30 true Z Z ?_)
   refine xgf ?_
   exact xfp
  refine VG (VY 24 false Z (DF h3) ?_)
  refine VG (VL 1 e.op.cells Z Z Z Z ?_)
  refine VG (VO.callV (fun Fr w => rcheck_spec Fr w e.op) Z ?_)
  have hb : badE e = (decide (opCheck e.op ≠ 0) || decide (e.op.kind = 1)) := by
   simp only [badE, readsB, h1, h3, show ¬ (6 : Int) ≤ e.client from fun h => h2 yd, decide_false, Bool.false_or]
   by_cases h4 : opCheck e.op = 0 <;> simp [h4]
  refine xgf ?_
  by_cases h4 : opCheck e.op = 0
  ·refine VG (VY 30 false Z (by simp [h4]) ?_)
   refine xgf ?_
   exact ⟨(), trivial, by rw [hb, DF (fun h => h h4)]; exact sbZ, ER⟩
  ·refine VG (VY 30 true Z (by simp [h4]) ?_)
   refine xgf ?_
   exact ⟨(), trivial, by rw [hb, DT h4]; exact sbZ, ER⟩
 rintro _ -
 refine CC Z (fun hbad => ?_) (fun hbad => CK ?_)
 ·refine zrj ?_
  exact CR (err Z Z Z Z (by rw [logErr, if_pos hbad]) yy)
 have hbad' : ¬ badE e = true := by rw [hbad]; simp
 refine VC.opn 2 Z (HOpn.rlog p es) ?_
 rintro x -
 show VC _ _ _ [pt p [.slice x.1 es.length x.2] rlogT, slH entT 7 x.1 es.length x.2 (flat entC es), pt rb (resC resZ) resT, pt eb (entC e) entT] _
 have back : ∀ {X : Cx}, Ent X [pt p [.slice x.1 es.length x.2] rlogT, slH entT 7 x.1 es.length x.2 (flat entC es), pt rb (resC resZ) resT, pt eb (entC e) entT] [pt rb (resC resZ) resT, pt eb (entC e) entT, rlogH p es] :=
  (IP 2 rfl (IP 2 rfl (Imp.rlog x (pkZ [0, 0])))).ent
 refine xly ?_
 refine CP (p := (4096 : Int) ≤ (es.length : Int)) Z (fun h2 => ?_) (fun h2 => CK ?_)
 ·refine CN back ?_
  refine zrj ?_
  exact CR (err Z Z Z Z (by rw [logErr, if_neg hbad', if_pos h2]) yy)
 refine xly ?_
 refine xei ?_
 refine xly ?_
 refine VC.condNE (i := e.index) (j := (es.length : Int) + 1) Z (fun h3 => ?_) (fun h3 => CK ?_)
 ·refine CN back ?_
  refine zrj ?_
  exact CR (err Z Z Z Z (by rw [logErr, if_neg hbad', if_neg h2, if_pos h3]) yy)
 refine CN back ?_
 refine xgb ?_
 refine VG (VV (fun Fr w hF hs hS => rllast_spec Fr w (hS.at_ 2 Z) hnum yd e.client) Z ?_)
 refine xgb ?_
 refine CP (p := e.seq ≤ (lastOf es e.client).1) Z (fun h4 => ?_) (fun h4 => CK ?_)
 ·refine zrj ?_
  exact CR (err Z Z Z Z (by rw [logErr, if_neg hbad', if_neg h2, if_neg (fun h => h h3), if_pos h4]) yy)
 have herr : logErr es e = 0 := by rw [logErr, if_neg hbad', if_neg h2, if_neg (fun h => h h3), if_neg h4]
 have happ : logApp es e = es ++ [e] := by rw [logApp, if_pos herr]
 have hnum2 := log_num hnum herr
 refine VC.opn 2 Z (HOpn.rlog p es) ?_
 rintro x -
 show VC _ _ _ [pt p [.slice x.1 es.length x.2] rlogT, slH entT 7 x.1 es.length x.2 (flat entC es), pt rb (resC resZ) resT, pt eb (entC e) entT] _
 refine VC.opn 1 Z (HOpn.rl entT x.1 x.2 es entC_len) ?_
 rintro r ⟨hrok, hv, hrx⟩
 rw [← hv]
 refine CN (L' := [pt p [r.v] rlogT, r.h entT, pt rb (resC resZ) resT, pt eb (entC e) entT]) (pkZ [1, 0, 0, 0]).ent ?_
 refine CS ?_
 refine VC.meetS (σ := Unit) (fun _ => [(0, pV p), (4, pV rb), (6, .int .i64 es.length)]) (fun _ => [rlogH p (es ++ [e]), pt rb (resC resZ) resT]) (fun _ => True) ?_ ?_
 ·have hle : r.xs.length = es.length := by rw [hrx]
  have e1 : ∀ {a2 : Option Addr} {c2 : Nat}, slH entT 7 a2 (0 + r.xs.length + 1) c2 ([] ++ flat entC r.xs ++ entC e) = slH entT 7 a2 (es ++ [e]).length c2 (flat entC (es ++ [e])) := fun {a2 c2} => by rw [hrx]; simp [flat_append, flat_cons, flat_nil]
  have e2 : ∀ {a2 : Option Addr} {c2 : Nat}, Value.slice a2 (0 + r.xs.length + 1) c2 = Value.slice a2 (es ++ [e]).length c2 := fun {a2 c2} => by rw [hrx]; simp
  refine CD (ts 0 5 (.take 6 (.two 5 7 (.only 7 (.only 8 (.take 9 (.take 10 (.only 11 .nil))))) (.only 5 (.only 8 (.take 9 (.take 10 (.only 11 .nil)))))))) ym yq ?_
  refine xez ?_
  refine VA.go (VA.ldA 3 (entC e) Z Z Z Z Z ?_)
  refine VA.ent (L' := [slH entT 7 none 0 0 [], pt p [r.v] rlogT, r.h entT, pt rb (resC resZ) resT, pt eb (entC e) entT]) (Imp.slNil Imp.refl).ent ?_
  refine VA.go (VA.two Z Z Z Z Z (OpT.append (m := r.xs.length) (news := flat entC r.xs) 0 Z Z Z Z Z Z Z (RL.rd (t := entT) entC_len hrok 2 Z) (flat_all entC_one _) (small_bytes (k := 5000) yd yy) yd)
   rfl rfl rfl (OpT.buildSlice (n := 1) (pv := [(0, .agg (entC e).toArray)]) (cells := entC e) rfl rfl rfl rfl yy (fill_one rfl rfl rfl)) ?_ ?_ ?_ ?_)
  ·rintro v L' ⟨a1, c1, rfl, hc1, rfl⟩
   exact yr
  ·rintro v L' ⟨nb, rfl, rfl⟩
   exact yr
  ·rintro v L' ⟨a1, c1, rfl, hc1, rfl⟩
   refine VA.go (AO (OpT.buildSlice (n := 1) (pv := [(0, .agg (entC e).toArray)]) (cells := entC e) Z Z Z Z yy (fill_one Z Z Z)) Z ?_ ?_)
   ·rintro v L' ⟨nb, rfl, rfl⟩
    exact yr
   rintro v L' ⟨nb, rfl, rfl⟩
   refine VA.go (AO (OpT.append (m := 1) (news := entC e) 1 Z Z Z Z Z Z Z (RdRow.pt 0 Z Z Z) Z (small_bytes (k := 5000) yd yy) yd) Z ?_ ?_)
   ·rintro v L' ⟨a2, c2, rfl, hc2, rfl⟩
    exact yr
   rintro v L' ⟨a2, c2, rfl, hc2, rfl⟩
   refine xfr ?_
   refine xmb ?_
   exact xmc
  ·rintro v L' ⟨nb, rfl, rfl⟩
   refine VA.go (AO (OpT.append (m := r.xs.length) (news := flat entC r.xs) 1 Z Z Z Z Z Z Z (RL.rd (t := entT) entC_len hrok 3 Z) (flat_all entC_one _) (small_bytes (k := 5000) yd yy) yd) Z ?_ ?_)
   ·rintro v L' ⟨a1, c1, rfl, hc1, rfl⟩
    exact yr
   rintro v L' ⟨a1, c1, rfl, hc1, rfl⟩
   refine VA.go (AO (OpT.append (m := 1) (news := entC e) 0 Z Z Z Z Z Z Z (RdRow.pt 1 Z Z Z) Z (small_bytes (k := 5000) yd yy) yd) Z ?_ ?_)
   ·rintro v L' ⟨a2, c2, rfl, hc2, rfl⟩
    exact yr
   rintro v L' ⟨a2, c2, rfl, hc2, rfl⟩
   refine xfr ?_
   refine xmb ?_
   exact xmc
 rintro _ -
 have hrl2 : (logRun (es ++ [e])).2.length = es.length + 1 := by rw [logRun_len, List.length_append]; rfl
 refine xdy ?_
 refine VG (VK (Lc := []) (fun Fr w hF hs hS => by
  obtain ⟨y, hy⟩ := RlogIn.of (hS.at_ 0 rfl)
  exact cells_spec Fr w hy hnum2 (by rw [List.length_append]; show es.length + 1 ≤ 5000; omega)) Z Z ?_)
 rintro _ _ ⟨r3, b, bc, hok, hrl3, hrel, rfl, rfl⟩
 refine xgk ?_
 rw [← logRun_len (es ++ [e])]
 refine VC.opn 1 Z (HOpn.rl resT b bc (logRun (es ++ [e])).2 resC_len) ?_
 rintro r2 ⟨hok2, hv2, hx2⟩
 obtain ⟨y, hy⟩ : ∃ y, r2.xs[es.length]? = some y := ⟨_, GE (by rw [hx2, hrl2]; omega)⟩
 obtain ⟨tb, tof, htb, hta, hrd⟩ := RL.Ok.ld (t := resT) hok2 hy (resC_len y)
 rw [← hv2, show r2.v = .slice r2.addr r2.xs.length r2.cap from rfl, hta]
 refine xdy ?_
 refine VG (VI (light_idx es.length Z Z Z Z Z Z (by rw [hx2, hrl2]; omega)) ?_)
 refine xkg ?_
 refine VG (VT (vs := resC y) (cs' := resC y) 3 Z Z Z Z (NR _) Z Z Z ?_)
 refine xdy ?_
 exact CR (Ret.cellTmp 4 5 Z Z Z (RdL.many (ds := resC y) 3 Z Z) Z (L' := [rlogH p (es ++ [e])]) (IP 2 Z Imp.nil).ent ⟨⟨y, by rw [herr]⟩, by rw [happ]⟩)
end Rk
namespace Nd
open Go Vg T Api Kv Ch Lg Rd Win Adm Sched Conf Rep Ref16 Rk
attribute [local irreducible] VO VC VA
section
variable {α : Type} {c : α → List Value} {n : Nat}
def hdRL (r : RL α) (k : Nat) : RL α := ⟨r.addr, r.cap, r.blk, r.cells, r.xs.take k⟩
def tlRL (n : Nat) (r : RL α) (k : Nat) : RL α := ⟨fromA r.addr r.cap k n, r.cap - k, r.blk, r.cells, r.xs.drop k⟩
theorem hd_ok {r : RL α} (h : r.Ok c n) (k : Nat) : (hdRL r k).Ok c n := ⟨by show (r.xs.take k).length ≤ r.cap; have := h.room; rw [List.length_take]; omega, fun hne => by
 obtain ⟨b, off, h1, h2, h3⟩ := h.at_ (fun e => hne (by show r.xs.take k = []; rw [e]; simp))
 refine ⟨b, off, h1, h2, fun i x hx => h3 i x ?_⟩
 have hx : (r.xs.take k)[i]? = some x := hx
 rw [List.getElem?_take] at hx
 split at hx
 ·exact hx
 ·cases hx⟩
theorem tl_ok {r : RL α} (h : r.Ok c n) (k : Nat) : (tlRL n r k).Ok c n := ⟨by show (r.xs.drop k).length ≤ r.cap - k; have := h.room; rw [List.length_drop]; omega, fun hne => by
 have hne : r.xs.drop k ≠ [] := hne
 have hlt : k < r.xs.length := Decidable.byContradiction fun hk => hne (List.drop_eq_nil_of_le yd)
 obtain ⟨b, off, h1, h2, h3⟩ := h.at_ (fun e => by rw [e] at hlt; cases hlt)
 have hcap : ¬ r.cap = k := by have := h.room; omega
 refine ⟨b, off + k * n, h1, by show fromA r.addr r.cap k n = _; rw [h2, fromA, Option.map_some, if_neg hcap, Addr.add_mid], fun i x hx => ?_⟩
 have hx : (r.xs.drop k)[i]? = some x := hx
 rw [List.getElem?_drop] at hx
 rw [← h3 (k + i) x hx, Nat.add_mul, Nat.add_assoc]; rfl⟩
end
section
variable {p : Nat} {R : RdsM}
theorem rrlast_spec (h : SatIn Fr [rrdsH p R] w) (hl : R.l.length ≤ 100) : Tri Tryz.prog 108 [.pointer (some ⟨p, 0, none⟩)] Fr w [] (fun v L => v = .tuple #[.int .i64 R.lastI, .bool (!R.l.isEmpty)] ∧ L = []) := by
 obtain ⟨r, h⟩ := h.ex
 have h := h.sep
 obtain ⟨hok, hrx⟩ := h.pure 0 rfl
 have hb := h.blk 1 rfl
 have hrw := RwIn.rl (h.at_ 2 rfl) hok
 refine TF 23 Tryz.func108 Z ym tabOk Z Z ?_
 refine xfh ?_
 refine CE Z (fun h1 => ?_) (fun h1 => CK ?_)
 ·have h0 : R.l = [] := by rw [← hrx, List.eq_nil_of_length_eq_zero (l := r.xs) yd]; rfl
  refine xdy ?_
  exact CR (Ret.tmp2 2 3 Z Z Z ER ⟨by rw [RdsM.lastI, h0]; rfl, Z⟩)
 ·have hpos : 0 < r.xs.length := by omega
  have hr16 := hok.room
  obtain ⟨y, hy⟩ : ∃ y, r.xs[r.xs.length - 1]? = some y := ⟨_, GE yd⟩
  have hgl : R.l.getLast? = some y.1 := by rw [List.getLast?_eq_getElem?, ← hrx, List.getElem?_map, List.length_map, hy]; rfl
  obtain ⟨eb, eo, hea, ra, rc⟩ := RwIn.rd (X := ⟨Tryz.prog, tab, tabOk, 23, Fr, w⟩) hrw hy
  rw [hea] at hb
  refine CS (CD (ts 0 15 .nil) ym yq ?_)
  refine xfm ?_
  have hle : r.xs.length = R.l.length := by rw [← hrx, List.length_map]
  refine xgl ?_
  refine VA.go (AI Z (light_idx (r.xs.length - 1) Z Z Z Z Z yd yd) ?_)
  refine xeh ?_
  refine xgs ?_
  refine xeh ?_
  exact CR (Ret.tmp2 2 3 Z Z Z ER ⟨by
   rw [RdsM.lastI, hgl]
   cases hR : R.l with
   | nil => exfalso; apply h1; rw [hle, hR]; rfl
   | cons _ _ => rfl, rfl⟩)
theorem rrflush_spec : Tri Tryz.prog 183 [.pointer (some ⟨p, 0, none⟩)] Fr w [rrdsH p R]
  (fun v L => ∃ r : RL RdR, r.Ok rdC 34 ∧ r.xs.map Prod.fst = R.l ∧ v = .slice r.addr r.xs.length r.cap ∧ L = [r.h rrdT, rrdsH p { R with l := [] }]) := by
 refine TF 12 Tryz.func183 Z ym tabOk Z Z ?_
 refine zry ?_
 rintro r ⟨hok, hrx⟩
 show VC _ _ _ [pt p [.int .i64 R.cap, .slice r.addr r.xs.length r.cap, .int .i64 R.last] rrdsT, r.h rrdT] _
 refine xdy ?_
 refine VG (VO.st 0 (cs' := [.int .i64 R.cap, .slice none 0 0, .int .i64 R.last]) Z Z Z Z (Nat.le_of_ble_eq_true Z) Z Z ?_)
 refine xdy ?_
 exact CR (Ret.tmp 2 Z Z (IP 1 Z (Imp.rrds RL.none ⟨RL.none_ok, Z⟩ (IP 0 Z (Imp.pure trivial Imp.nil)))).ent ⟨r, hok, hrx, Z, Z⟩)
def rsure (id : Int) (R : RdsM) : Nat := (R.l.takeWhile fun y => decide (y.id ≤ id)).length
theorem tw_at {α : Type} {q : α → Bool} : ∀ {l : List α} {k : Nat}, k ≤ l.length → (∀ i x, i < k → l[i]? = some x → q x = true) → (∀ x, l[k]? = some x → q x = false) → (l.takeWhile q).length = k
 | [], k, h, _, _ => by simp at h; simp [h]
 | x :: l, 0, _, _, h3 => by have := h3 x rfl; simp [this]
 | x :: l, k + 1, h, h2, h3 => by
  have := h2 0 x yd rfl
  rw [List.takeWhile_cons_of_pos this, List.length_cons, tw_at (l := l) (k := k) yb (fun i y hi hy => h2 (i + 1) y yd yl) (fun y hy => h3 y yl)]
theorem rrsure_spec (hl : R.l.length ≤ 100) (id : Int) : Tri Tryz.prog 119 [.pointer (some ⟨p, 0, none⟩), .int .i64 id] Fr w [rrdsH p R]
  (fun v L => ∃ r r2 : RL RdR, r.Ok rdC 34 ∧ r2.Ok rdC 34 ∧ r.h rrdT = r2.h rrdT ∧ r.xs.map Prod.fst = R.l.take (rsure id R) ∧ r2.xs.map Prod.fst = R.l.drop (rsure id R) ∧ v = .slice r.addr r.xs.length r.cap ∧ L = [pt p [.int .i64 R.cap, .slice r2.addr r2.xs.length r2.cap, .int .i64 R.last] rrdsT, r2.h rrdT]) := by
 refine TF 44 Tryz.func119 Z ym tabOk Z Z ?_
 refine zry ?_
 rintro r ⟨hok, hrx⟩
 have hle : r.xs.length = R.l.length := by rw [← hrx, List.length_map]
 have hroom := hok.room
 show VC _ _ _ [pt p [.int .i64 R.cap, .slice r.addr r.xs.length r.cap, .int .i64 R.last] rrdsT, r.h rrdT] _
 refine xep ?_
 refine CS ?_
 refine VC.meetS (σ := Nat) (fun k => [(0, pV p), (1, .int .i64 id), (5, .int .i64 k)]) (fun _ => [pt p [.int .i64 R.cap, .slice r.addr r.xs.length r.cap, .int .i64 R.last] rrdsT, r.h rrdT]) (fun k => k ≤ R.l.length ∧ rsure id R = k) ?_ ?_
 ·refine xjt ?_
  refine VC.loop (σ := Nat) (fun k => [(0, pV p), (1, .int .i64 id), (5, .int .i64 k)]) (fun _ => [pt p [.int .i64 R.cap, .slice r.addr r.xs.length r.cap, .int .i64 R.last] rrdsT, r.h rrdT]) (fun k => k ≤ R.l.length ∧ ∀ i x, i < k → R.l[i]? = some x → decide (x.id ≤ id) = true) (fun k => R.l.length - k) 0
   ⟨Nat.zero_le _, fun i x hi => by omega⟩ sbZ ER ?_
  rintro k ⟨hk, hall⟩
  refine xel ?_
  by_cases h1 : k < r.xs.length
  rotate_left
  ·refine VG (VY 14 false Z (DF yd) ?_)
   refine xel ?_
   refine VC.condF Z (CX ?_)
   exact ⟨k, ⟨hk, tw_at hk hall (fun x hx => by rw [List.getElem?_eq_none yd] at hx; cases hx)⟩, sbZ, ER⟩
  refine VG (VY 14 true Z (DT yd) ?_)
  obtain ⟨y, hy⟩ : ∃ y, r.xs[k]? = some y := ⟨_, GE h1⟩
  have hyl : R.l[k]? = some y.1 := by rw [← hrx, List.getElem?_map, hy]; rfl
  obtain ⟨tb, tof, htb, hta, hrd⟩ := RL.Ok.ld (t := rrdT) hok hy (rdC_len y)
  rw [hta]
  refine xel ?_
  refine xmd ?_
  refine xel ?_
  refine VG (VD Z Z ((hrd 1 Z).2 _ 0 _ Z Z) ?_)
  refine xel ?_
  refine CC Z (fun h2 => CK ?_) (fun h2 => CX ?_)
  ·rw [← hta]
   refine xel ?_
   refine zrk ?_
   exact ⟨k + 1, ⟨by omega, fun i x hi hx => by
    by_cases hik : i = k
    ·subst hik; rw [hyl] at hx; cases hx; simpa using h2
    ·exact hall i x yd hx⟩, by dsimp only; omega, sbZ, ER⟩
  ·rw [← hta]
   exact ⟨k, ⟨hk, tw_at hk hall (fun x hx => by rw [hyl] at hx; cases hx; simpa using h2)⟩, sbZ, ER⟩
 rintro k ⟨hk, hs⟩
 refine xdy ?_
 refine VG (VI (light_head k Z Z Z Z Z Z yd) ?_)
 refine xdy ?_
 refine VG (VI (light_from k Z Z Z Z Z Z yd yd) ?_)
 refine xdy ?_
 refine VG (VO.st 0 (cs' := [.int .i64 R.cap, .slice (fromA r.addr r.cap k 34) (r.xs.length - k) (r.cap - k), .int .i64 R.last]) Z Z Z Z (Nat.le_of_ble_eq_true Z) Z Z ?_)
 refine xdy ?_
 refine CR (Ret.tmp 4 Z Z (L' := [pt p [.int .i64 R.cap, .slice (tlRL 34 r k).addr (tlRL 34 r k).xs.length (tlRL 34 r k).cap, .int .i64 R.last] rrdsT, (tlRL 34 r k).h rrdT]) (Imp.of_eq ?_).ent ⟨hdRL r k, tlRL 34 r k, hd_ok hok k, tl_ok hok k, Z, ?_, ?_, ?_, Z⟩)
 ·show _ = [pt p [.int .i64 R.cap, .slice (fromA r.addr r.cap k 34) (r.xs.drop k).length (r.cap - k), .int .i64 R.last] rrdsT, r.h rrdT]
  rw [List.length_drop]; rfl
 ·show (r.xs.take k).map Prod.fst = _
  rw [List.map_take, hrx, hs]
 ·show (r.xs.drop k).map Prod.fst = _
  rw [List.map_drop, hrx, hs]
 ·show _ = Value.slice r.addr (r.xs.take k).length r.cap
  rw [List.length_take, Nat.min_eq_left yd]
theorem rrexp_spec (hl : R.l.length ≤ 100) (now : Int) : Tri Tryz.prog 87 [.pointer (some ⟨p, 0, none⟩), .int .i64 now] Fr w [rrdsH p R]
  (fun v L => ∃ r : RL RdR, r.Ok rdC 34 ∧ r.xs.map Prod.fst = R.l.filter (fun y => !lives now y) ∧ v = .slice r.addr r.xs.length r.cap ∧ L = [r.h rrdT, rrdsH p { R with l := R.l.filter (lives now) }]) := by
 refine TF 53 Tryz.func87 Z ym tabOk Z Z ?_
 refine zry ?_
 rintro r ⟨hok, hrx⟩
 have hle : r.xs.length = R.l.length := by rw [← hrx, List.length_map]
 have hroom := hok.room
 show VC _ _ _ [pt p [.int .i64 R.cap, .slice r.addr r.xs.length r.cap, .int .i64 R.last] rrdsT, r.h rrdT] _
 refine xep ?_
 refine CS (CS (CG (VG (VN ?_))) )
 refine xjt ?_
 refine VC.loop (σ := Nat × (List RdR × Option Addr × Nat) × (List RdR × Option Addr × Nat))
  (fun x => [(0, pV p), (1, .int .i64 now), (5, .slice x.2.1.2.1 x.2.1.1.length x.2.1.2.2), (6, .slice x.2.2.2.1 x.2.2.1.length x.2.2.2.2), (7, .int .i64 x.1)])
  (fun x => [slH rrdT 34 x.2.1.2.1 x.2.1.1.length x.2.1.2.2 (flat rdC x.2.1.1), slH rrdT 34 x.2.2.2.1 x.2.2.1.length x.2.2.2.2 (flat rdC x.2.2.1), pt p [.int .i64 R.cap, .slice r.addr r.xs.length r.cap, .int .i64 R.last] rrdsT, r.h rrdT])
  (fun x => x.1 ≤ R.l.length ∧ x.2.1.1.map Prod.fst = (R.l.take x.1).filter (fun y => !lives now y) ∧ x.2.2.1.map Prod.fst = (R.l.take x.1).filter (lives now)) (fun x => R.l.length - x.1) (0, ([], none, 0), ([], none, 0))
  ⟨Nat.zero_le _, rfl, rfl⟩ sbZ (Imp.slNil (Imp.slNil Imp.refl)).ent ?_
 rintro ⟨k, ⟨g, ga, gc⟩, ⟨s, sa, sc⟩⟩ ⟨hk, hg, hs⟩
 dsimp only at hk hg hs ⊢
 have hgl : g.length ≤ 100 := by have := congrArg List.length hg; have h2 := List.length_filter_le (fun y => !lives now y) (R.l.take k); rw [List.length_map] at this; rw [List.length_take] at h2; omega
 have hsl : s.length ≤ 100 := by have := congrArg List.length hs; have h2 := List.length_filter_le (lives now) (R.l.take k); rw [List.length_map] at this; rw [List.length_take] at h2; omega
 refine xgd ?_
 refine CP (p := (k : Int) < (r.xs.length : Int)) Z (fun h1 => CK ?_) (fun h1 => CX ?_)
 rotate_left
 ·obtain rfl : k = R.l.length := by omega
  rw [List.take_length] at hg hs
  refine CN (L' := [slH rrdT 34 ga g.length gc (flat rdC g), slH rrdT 34 sa s.length sc (flat rdC s), pt p [.int .i64 R.cap, .slice r.addr r.xs.length r.cap, .int .i64 R.last] rrdsT, r.h rrdT]) ER ?_
  refine xgc ?_
  refine VG (VO.st 2 (cs' := [.int .i64 R.cap, .slice sa s.length sc, .int .i64 R.last]) Z Z Z Z (Nat.le_of_ble_eq_true Z) Z Z ?_)
  refine xgc ?_
  show VC _ _ _ _ _
  refine VC.opn 0 Z (HOpn.rl rrdT ga gc g rdC_len) ?_
  rintro r1 ⟨ok1, hv1, hx1⟩
  refine VC.opn 1 Z (HOpn.rl rrdT sa sc s rdC_len) ?_
  rintro r2 ⟨ok2, hv2, hx2⟩
  rw [← hv1, ← hv2]
  refine CR (Ret.tmp 4 Z Z (IP 1 Z (Imp.rrds r2 (R := { R with l := R.l.filter (lives now) }) ⟨ok2, by rw [hx2, hs]⟩ (IP 1 Z (IP 0 Z Imp.nil)))).ent ⟨r1, ok1, by rw [hx1, hg], Z, Z⟩)
 have h1 : k < r.xs.length := by omega
 obtain ⟨y, hy⟩ : ∃ y, r.xs[k]? = some y := ⟨_, GE h1⟩
 have hyl : R.l[k]? = some y.1 := by rw [← hrx, List.getElem?_map, hy]; rfl
 have htk : R.l.take (k + 1) = R.l.take k ++ [y.1] := by rw [List.take_add_one, hyl]; rfl
 obtain ⟨tb, tof, htb, hta, hrd⟩ := RL.Ok.ld (t := rrdT) hok hy (rdC_len y)
 rw [hta]
 refine xgd ?_
 refine xmd ?_
 refine xgd ?_
 refine VG (VD Z Z ((hrd 3 Z).2 _ 7 _ Z Z) ?_)
 refine xgd ?_
 refine CP (p := y.1.f.deadline < now) Z (fun h2 => ?_) (fun h2 => ?_)
 ·have hlv : lives now y.1 = false := DF yd
  refine xgd ?_
  refine xmd ?_
  refine VG (VD Z Z ((hrd 3 Z).1 _ Z Z) ?_)
  refine VG (VO.buildSlice (n := 1) (pv := [(0, .agg (rdC y).toArray)]) (rdC y) Z Z Z Z yy (fill_one Z Z Z) fun nb => ?_)
  refine VG (VO.append (m := 1) (news := rdC y) 1 Z Z Z Z Z Z Z (RdRow.pt 0 Z Z Z) Z (small_bytes (k := 101) yd yy) yd fun a3 c3 hc3 => ?_)
  rw [← hta]
  refine xgd ?_
  refine xei ?_
  refine xgd ?_
  have hL : (g ++ [y]).length = g.length + 1 := by simp
  refine ⟨(k + 1, (g ++ [y], a3, c3), (s, sa, sc)), ⟨by dsimp only; omega, by dsimp only; rw [List.map_append, hg, htk, List.filter_append]; simp [hlv], by dsimp only; rw [hs, htk, List.filter_append]; simp [hlv]⟩, by dsimp only; omega, SC Z (SC Z (SC yag sbZ)), ?_⟩
  dsimp only
  rw [hL, flat_append, flat_cons, flat_nil, List.append_nil]
  exact (Imp.cons Imp.tl).ent
 ·have hlv : lives now y.1 = true := DT yd
  refine xgd ?_
  refine xmd ?_
  refine VG (VD Z Z ((hrd 3 Z).1 _ Z Z) ?_)
  refine VG (VO.buildSlice (n := 1) (pv := [(0, .agg (rdC y).toArray)]) (rdC y) Z Z Z Z yy (fill_one Z Z Z) fun nb => ?_)
  refine VG (VO.append (m := 1) (news := rdC y) 2 Z Z Z Z Z Z Z (RdRow.pt 0 Z Z Z) Z (small_bytes (k := 101) yd yy) yd fun a3 c3 hc3 => ?_)
  rw [← hta]
  refine xgd ?_
  refine xei ?_
  refine xgd ?_
  have hL : (s ++ [y]).length = s.length + 1 := by simp
  refine ⟨(k + 1, (g, ga, gc), (s ++ [y], a3, c3)), ⟨by dsimp only; omega, by dsimp only; rw [hg, htk, List.filter_append]; simp [hlv], by dsimp only; rw [List.map_append, hs, htk, List.filter_append]; simp [hlv]⟩, by dsimp only; omega, SC Z (SC Z (SC Z (SC yag sbZ))), ?_⟩
  dsimp only
  rw [hL, flat_append, flat_cons, flat_nil, List.append_nil]
  exact Imp.ent (IP 2 Z (IP 0 Z Imp.tl))
theorem rrput_spec (hl : R.l.length ≤ 100) (h0 : 0 ≤ R.last) (h1 : R.last ≤ 1000000000) (f : FrameM) (m : MemG) (x : ResM) :
  Tri Tryz.prog 178 [.pointer (some ⟨p, 0, none⟩), .agg (fgC f m).toArray, .agg (resC x).toArray] Fr w [rrdsH p R]
   (fun v L => v = (if (R.l.length : Int) < R.cap then .tuple #[.int .i64 (R.last + 1), .int .i64 0] else .tuple #[.int .i64 0, .int .i64 60]) ∧ L = [rrdsH p (R.put f x)]) := by
 refine TF 46 Tryz.func178 Z ym tabOk Z Z ?_
 refine CS (CG (VG (VB (vs := fgC f m) Z fun fb => VG (VB (vs := resC x) Z fun rb => VG (VN ?_)))))
 refine VC.opn 2 Z (HOpn.rrds p R) ?_
 rintro r ⟨hok, hrx⟩
 have hle : r.xs.length = R.l.length := by rw [← hrx, List.length_map]
 show VC _ _ _ [pt p [.int .i64 R.cap, .slice r.addr r.xs.length r.cap, .int .i64 R.last] rrdsT, r.h rrdT, pt rb (resC x) resT, pt fb (fgC f m) frT] _
 refine CS (CS (CD (ts 0 10 .nil) ym yq ?_))
 refine xeh ?_
 refine CP (p := R.cap ≤ (r.xs.length : Int)) Z (fun hf => ?_) (fun hf => CK ?_)
 ·have hput : R.put f x = R := by rw [RdsM.put, if_neg yd]
  refine xdy ?_
  exact CR (Ret.tmp2 6 7 Z Z Z (Imp.rrds r ⟨hok, hrx⟩ (IP 0 Z (IP 0 Z Imp.nil))).ent ⟨by rw [if_neg yd], by rw [hput]⟩)
 have hput : R.put f x = { R with last := R.last + 1, l := R.l ++ [⟨R.last + 1, f, x⟩] } := by rw [RdsM.put, if_pos yd]
 refine zpf ?_
 refine VG (VO.st 0 (cs' := [.int .i64 R.cap, .slice r.addr r.xs.length r.cap, .int .i64 (R.last + 1)]) Z Z Z Z (Nat.le_of_ble_eq_true Z) Z Z ?_)
 refine xgk ?_
 refine CS ?_
 obtain ⟨z, hz⟩ : ∃ z : RdR, z = (⟨R.last + 1, f, x⟩, m) := ⟨_, rfl⟩
 have e1 : ∀ {a2 : Option Addr} {c2 : Nat}, slH rrdT 34 a2 (0 + r.xs.length + 1) c2 ([] ++ flat rdC r.xs ++ rdC z) = slH rrdT 34 a2 (r.xs ++ [z]).length c2 (flat rdC (r.xs ++ [z])) := fun {a2 c2} => by simp [flat_append, flat_cons, flat_nil]
 have e2 : ∀ {a2 : Option Addr} {c2 : Nat}, Value.slice a2 (0 + r.xs.length + 1) c2 = Value.slice a2 (r.xs ++ [z]).length c2 := fun {a2 c2} => by simp
 refine VC.meetS (σ := Option Addr × Nat) (fun y => [(0, pV p)]) (fun y => [pt p [.int .i64 R.cap, .slice y.1 (r.xs ++ [z]).length y.2, .int .i64 (R.last + 1)] rrdsT, slH rrdT 34 y.1 (r.xs ++ [z]).length y.2 (flat rdC (r.xs ++ [z]))]) (fun _ => True) ?_ ?_
 ·refine CD (ts 0 5 (ts 6 7 (.two 5 13 (.only 13 (.only 14 (ts 15 2 (.only 17 .nil)))) (.only 5 (.only 14 (ts 15 2 (.only 17 .nil))))))) ym yq ?_
  refine xgz ?_
  refine VA.go (VA.ldA 3 (fgC f m) Z Z Z Z Z ?_)
  refine VA.go (VA.ldA 2 (resC x) Z Z Z Z Z ?_)
  refine VA.go (AI Z (LB (pv := [(0, .int .i64 (R.last + 1)), (1, .agg (fgC f m).toArray), (2, .agg (resC x).toArray)]) (rdC (⟨R.last + 1, f, x⟩, m)) Z Z Z ym Z) ?_)
  rw [← hz]
  refine VA.ent (L' := [slH rrdT 34 none 0 0 [], pt p [.int .i64 R.cap, .slice r.addr r.xs.length r.cap, .int .i64 (R.last + 1)] rrdsT, r.h rrdT, pt rb (resC x) resT, pt fb (fgC f m) frT]) (Imp.slNil Imp.refl).ent ?_
  refine VA.go (VA.two Z Z Z Z Z (OpT.append (m := r.xs.length) (news := flat rdC r.xs) 0 Z Z Z Z Z Z Z (RL.rd (t := rrdT) rdC_len hok 2 Z) (flat_all rdC_one _) (small_bytes (k := 101) yd yy) yd)
   rfl rfl rfl (OpT.buildSlice (n := 1) (pv := [(0, .agg (rdC z).toArray)]) (cells := rdC z) rfl rfl rfl rfl yy (fill_one rfl rfl rfl)) ?_ ?_ ?_ ?_)
  ·rintro v L' ⟨a1, c1, rfl, hc1, rfl⟩
   exact yr
  ·rintro v L' ⟨nb, rfl, rfl⟩
   exact yr
  ·rintro v L' ⟨a1, c1, rfl, hc1, rfl⟩
   refine VA.go (AO (OpT.buildSlice (n := 1) (pv := [(0, .agg (rdC z).toArray)]) (cells := rdC z) Z Z Z Z yy (fill_one Z Z Z)) Z ?_ ?_)
   ·rintro v L' ⟨nb, rfl, rfl⟩
    exact yr
   rintro v L' ⟨nb, rfl, rfl⟩
   refine VA.go (AO (OpT.append (m := 1) (news := rdC z) 1 Z Z Z Z Z Z Z (RdRow.pt 0 Z Z Z) Z (small_bytes (k := 101) yd yy) yd) Z ?_ ?_)
   ·rintro v L' ⟨a2, c2, rfl, hc2, rfl⟩
    exact yr
   rintro v L' ⟨a2, c2, rfl, hc2, rfl⟩
   refine xfr ?_
   refine xme ?_
   exact xmf
  ·rintro v L' ⟨nb, rfl, rfl⟩
   refine VA.go (AO (OpT.append (m := r.xs.length) (news := flat rdC r.xs) 1 Z Z Z Z Z Z Z (RL.rd (t := rrdT) rdC_len hok 3 Z) (flat_all rdC_one _) (small_bytes (k := 101) yd yy) yd) Z ?_ ?_)
   ·rintro v L' ⟨a1, c1, rfl, hc1, rfl⟩
    exact yr
   rintro v L' ⟨a1, c1, rfl, hc1, rfl⟩
   refine VA.go (AO (OpT.append (m := 1) (news := rdC z) 0 Z Z Z Z Z Z Z (RdRow.pt 1 Z Z Z) Z (small_bytes (k := 101) yd yy) yd) Z ?_ ?_)
   ·rintro v L' ⟨a2, c2, rfl, hc2, rfl⟩
    exact yr
   rintro v L' ⟨a2, c2, rfl, hc2, rfl⟩
   refine xfr ?_
   refine xme ?_
   exact xmf
 rintro ⟨a2, c2⟩ -
 refine VC.opn 1 Z (HOpn.rl rrdT a2 c2 (r.xs ++ [z]) rdC_len) ?_
 rintro r2 ⟨ok2, hv2, hx2⟩
 dsimp only
 rw [← hv2]
 refine xgb ?_
 exact CR (Ret.tmp2 6 7 Z Z Z (Imp.rrds r2 (R := R.put f x) ⟨ok2, by rw [hput, hx2, List.map_append, hrx, hz]; rfl⟩ (by rw [hput]; exact (IP 1 Z (IP 0 Z Imp.nil)))).ent ⟨by rw [if_pos yd], Z⟩)
end
end Nd
namespace Sched
open Go Vg Api
theorem popF_ind (I : SchM → Prop) (R : FrameM → SchM → Prop)
  (hE : ∀ S c, S.Wf → I S → S.cls[S.turn]? = some c → c.q = [] → I ⟨S.cls.set S.turn c.c0, S.cap, (S.turn + 1) % S.cls.length, true⟩)
  (hL : ∀ S c g q, S.Wf → I S → S.cls[S.turn]? = some c → c.q = g :: q → (c.c1 S.fresh).credit < opCost g.op → I ⟨S.cls.set S.turn (c.c1 S.fresh), S.cap, (S.turn + 1) % S.cls.length, true⟩)
  (hP : ∀ S c g q, S.Wf → I S → S.cls[S.turn]? = some c → c.q = g :: q → ¬ (c.c1 S.fresh).credit < opCost g.op → R g (if q = [] then ⟨S.cls.set S.turn (c.c2 S.fresh g q), S.cap, (S.turn + 1) % S.cls.length, true⟩ else ⟨S.cls.set S.turn (c.c2 S.fresh g q), S.cap, S.turn, false⟩)) :
  ∀ {N : Nat} {S S1 : SchM} {f : FrameM}, S.Wf → I S → S.popF N = some (f, S1) → R f S1
 | 0, S, S1, f, _, _, h => by simp [SchM.popF] at h
 | N + 1, S, S1, f, hw, hi, h => by
  obtain ⟨c, hc⟩ : ∃ c, S.cls[S.turn]? = some c := ⟨_, GE hw.turn⟩
  have hcw := hw.cls c (ME hc)
  have hql := hw.qs c (ME hc)
  rw [popF_succ hc] at h
  cases hq : c.q with
  | nil =>
   simp only [hq] at h
   exact popF_ind I R hE hL hP (hw.turned (c' := c.c0) hcw.empty hql yam) (hE S c hw hi hc hq) h
  | cons g q' =>
   simp only [hq] at h
   have hcost := opCost_le g.op
   by_cases hlt : (c.c1 S.fresh).credit < opCost g.op
   ·rw [if_pos hlt] at h
    exact popF_ind I R hE hL hP (hw.turned (c' := c.c1 S.fresh) (hw.c1 hc) hql yd) (hL S c g q' hw hi hc hq hlt) h
   ·rw [if_neg hlt] at h
    have := hP S c g q' hw hi hc hq hlt
    simp only [Option.some.injEq, Prod.mk.injEq] at h
    obtain ⟨rfl, rfl⟩ := h
    exact this
end Sched
namespace Ref16
open Go Vg T Api Sched
attribute [local irreducible] VO VC VA
def popRf (p : Nat) (a : Option Addr) (S : SchM) (v : Value) (L : List HP) : Prop := match S.popM with
 | some (f, S1) => (∃ m, v = .tuple #[.agg (fmc (f, m)).toArray, .bool true]) ∧ L = [rfH p a S1]
 | none => v = .tuple #[.agg (fmc fmz).toArray, .bool false] ∧ L = [rfH p a S]
theorem crs_set2 {l : List ClsM} {k : Nat} {c c1 : ClsM} {x : Int} (hx : x = c.credit) : (crs (l.set k c1)).set (0 + k * 1) (.int .i64 x) = crs (l.set k c) := by rw [crs_set hx, List.set_set]
theorem crs_congr {l : List ClsM} {k : Nat} {c c1 : ClsM} (h : c1.credit = c.credit) : crs (l.set k c1) = crs (l.set k c) := by simp only [crs, List.map_set, h]
theorem svs_congr {l : List ClsM} {k : Nat} {c c1 : ClsM} (h : c1.served = c.served) : svs (l.set k c1) = svs (l.set k c) := by simp only [svs, List.map_set, h]
def few (S : SchM) (B : Int) : Prop := ∀ c ∈ S.cls, c.served ≤ B
theorem few_set {S : SchM} {B : Int} {k t : Nat} {c' : ClsM} {fr : Bool} (h : few S B) (hc : c'.served ≤ B) : few ⟨S.cls.set k c', S.cap, t, fr⟩ B := fun x hx => by
 rcases List.mem_or_eq_of_mem_set hx with hx | rfl
 ·exact h x hx
 ·exact hc
theorem quanta_set {l : List ClsM} {k : Nat} {c c' : ClsM} (hc : l[k]? = some c) (h : c'.quantum = c.quantum) : (l.set k c').map ClsM.quantum = l.map ClsM.quantum := by
 rw [List.map_set, h]
 have : (l.map ClsM.quantum)[k]? = some c.quantum := by rw [List.getElem?_map, hc]; rfl
 exact list_set_same this
theorem popF_keeps {N : Nat} {S S1 : SchM} {f : FrameM} {qs : List Int} {B : Int} (hw : S.Wf) (hq : S.cls.map ClsM.quantum = qs) (hB : few S B) (h : S.popF N = some (f, S1)) : S1.cls.map ClsM.quantum = qs ∧ few S1 (B + 96) := by
 refine popF_ind (fun S => S.cls.map ClsM.quantum = qs ∧ few S B) (fun _ S1 => S1.cls.map ClsM.quantum = qs ∧ few S1 (B + 96)) ?_ ?_ ?_ hw ⟨hq, hB⟩ h
 ·rintro S c hw ⟨h1, h2⟩ hc _
  refine ⟨Eq.trans ?_ h1, few_set h2 (h2 c (ME hc))⟩; exact quanta_set hc rfl
 ·rintro S c g q hw ⟨h1, h2⟩ hc _ _
  refine ⟨Eq.trans ?_ h1, few_set h2 (h2 c (ME hc))⟩; exact quanta_set hc rfl
 ·rintro S c g q hw ⟨h1, h2⟩ hc _ _
  have h3 := h2 c (ME hc)
  have h4 := opCost_le g.op
  have h5 : (c.c2 S.fresh g q).served ≤ B + 96 := by
   show SchM.served2 (c.served + opCost g.op) ≤ _
   unfold SchM.served2; split <;> omega
  have h6 : few S (B + 96) := fun c hc => by have := h2 c hc; omega
  split
  ·refine ⟨Eq.trans ?_ h1, few_set h6 h5⟩; exact quanta_set hc rfl
  ·refine ⟨Eq.trans ?_ h1, few_set h6 h5⟩; exact quanta_set hc rfl
theorem popM_keeps {S S1 : SchM} {f : FrameM} {qs : List Int} {B : Int} (hw : S.Wf) (hq : S.cls.map ClsM.quantum = qs) (hB : few S B) (h : S.popM = some (f, S1)) : S1.cls.map ClsM.quantum = qs ∧ few S1 (B + 96) := by
 unfold SchM.popM at h
 split at h
 ·cases h
 ·exact popF_keeps hw hq hB h
theorem tail_v {r : FL} {x : FM} {xs : List FM} {b off : Nat} (hx : r.xs = x :: xs) (h2 : r.addr = some ⟨b, off, none⟩) : Value.slice (some (if r.cap = 1 then ⟨b, off, none⟩ else ⟨b, off + 29, none⟩)) xs.length (r.cap - 1) = (r.tail 29).v := by
 simp [RL.v, RL.tail, hx, h2]
theorem pop_spec (p : Nat) (a : Option Addr) (S0 : SchM) (qs : List Int) (B : Int) (hq : IntsIn Fr w a qs) (hqs : S0.cls.map ClsM.quantum = qs) (hB : few S0 B) (hB2 : B ≤ 1000000000) :
  Tri Tryz.prog 166 [.pointer (some ⟨p, 0, none⟩)] Fr w [rfH p a S0] (popRf p a S0) := by
 refine TF 166 Tryz.func166 Z ym tabOk Z Z ?_
 refine CS (CG (VG (VO.alloc Z fun b => VG (VN ?_))))
 refine VC.opn 1 Z (HOpn.rf p a S0) fun s0 h0 => ?_
 refine CN (L' := pt b (fmc fmz) 46 :: rfL p S0 s0) (Imp.perm List.perm_append_comm).ent ?_
 have hn4 := h0.wf.n1
 refine xep ?_
 refine VC.meet (σ := Unit) (fun _ => [(0, pV p), (2, pV b), (4, .bool (!S0.idle))]) (fun _ => pt b (fmc fmz) 46 :: rfL p S0 s0) (fun _ => True) ?_ ?_
 ·refine xdy ?_
  refine VC.loop (σ := Nat × Bool) (fun x => [(0, pV p), (2, pV b), (4, .bool x.2), (5, .int .i64 x.1)]) (fun _ => pt b (fmc fmz) 46 :: rfL p S0 s0) (fun x => x.1 ≤ S0.cls.length ∧ x.2 = !((S0.cls.take x.1).all fun c => c.q.isEmpty)) (fun x => 4 - x.1) (0, false) ⟨Nat.zero_le _, Z⟩ sbZ ER ?_
  rintro ⟨i, wt⟩ ⟨hi, hwt⟩
  dsimp only at hi hwt ⊢
  refine xgb ?_
  refine CP Z (fun h1 => CK ?_) (fun h1 => CX ?_)
  ·have hk : i < S0.cls.length := by omega
   obtain ⟨r, c, hr, hc, hok, hl⟩ := h0.row hk
   have hlen : r.xs.length = c.q.length := by have := congrArg List.length hl; simpa using this
   have hall : ((S0.cls.take (i + 1)).all fun c => c.q.isEmpty) = (((S0.cls.take i).all fun c => c.q.isEmpty) && c.q.isEmpty) := by rw [List.take_add_one, hc, List.all_append]; simp
   refine xgb ?_
   refine VG (VO.split 19 Z Z (fun h2 => VG (VN ?_)) (fun h2 => ?_))
   ·subst h2
    refine xgb ?_
    refine xei ?_
    refine xdy ?_
    refine ⟨(i + 1, true), ⟨hk, ?_⟩, by dsimp only; omega, sbZ, ER⟩
    dsimp only
    rw [hall, Bool.not_and, ← hwt]; rfl
   ·subst h2
    refine xgb ?_
    refine xlp ?_
    refine VG (VO.ld 2 Z Z Z (rows_v hr) (VG (VN ?_)))
    refine xgb ?_
    refine xei ?_
    refine xdy ?_
    refine ⟨(i + 1, decide (0 < (r.xs.length : Int))), ⟨hk, ?_⟩, by dsimp only; omega, sbZ, ER⟩
    dsimp only
    rw [hall, Bool.not_and, ← hwt, Bool.false_or]
    cases hcq : c.q with
    | nil => rw [hcq] at hlen; simp [hlen]
    | cons _ _ => rw [hcq] at hlen; simp [hlen, -List.length_cons]; simp
  ·have hk : i = S0.cls.length := by omega
   subst hk
   rw [List.take_length] at hwt
   exact ⟨(), trivial, SC Z (SC Z (SC (by rw [hwt]; rfl) (SN _))), ER⟩
 intro _ _
 cases hi : S0.idle with
 | true =>
  have e : S0.popM = none := by unfold SchM.popM; rw [hi]; rfl
  refine xdy ?_
  refine VC.loop (σ := Unit) (fun _ => [(2, pV b), (4, .bool false)]) (fun _ => pt b (fmc fmz) 46 :: rfL p S0 s0) (fun _ => True) (fun _ => 0) () trivial sbZ ER ?_
  intro _ _
  refine xdy ?_
  refine VC.condF Z (CX ?_)
  refine xdy ?_
  refine VG (VI (LB (pv := []) (fmc fmz) Z Z Z Z Z) ?_)
  refine xgx ?_
  refine CR (Ret.cellTmp 2 3 Z Z Z (RdL.many 0 Z Z) Z (L' := [rfH p a S0]) (Imp.trans Imp.tl (rf_shut s0 h0 Imp.refl)).ent ?_)
  unfold popRf; rw [e]; exact ⟨rfl, rfl⟩
 | false =>
 obtain ⟨f, S1, hp⟩ := popF_some h0.wf hi
 have hpm : S0.popM = some (f, S1) := by unfold SchM.popM; rw [hi]; exact hp
 refine xdy ?_
 refine VC.loop (σ := Nat × SchM × RfS) (fun _ => [(0, pV p), (2, pV b), (4, .bool true)]) (fun x => pt b (fmc fmz) 46 :: rfL p x.2.1 x.2.2) (fun x => RfOk x.2.1 a x.2.2 ∧ x.2.1.popF x.1 = some (f, S1) ∧ x.2.1.cls.map ClsM.quantum = qs ∧ few x.2.1 B) (fun x => x.1) (9, S0, s0) ⟨h0, hp, hqs, hB⟩ sbZ ER ?_
 clear hp hqs hB hn4
 rintro ⟨N, S, s⟩ ⟨h, hp, hqs, hB⟩
 dsimp only at h hp hqs hB ⊢
 have hn4 := h.wf.n1
 have ht := h.wf.turn
 have hls := h.len
 obtain ⟨r, c, hr, hc, hok, hl⟩ := h.row ht
 have hcrl : ∀ l : List ClsM, l.length = S.cls.length → 0 + S.turn * 1 < (crs l).length := fun l hl => by rw [crs_len, hl]; omega
 have hlen : r.xs.length = c.q.length := by have := congrArg List.length hl; simpa using this
 cases N with
 | zero => simp [SchM.popF] at hp
 | succ N =>
 rw [popF_succ hc] at hp
 refine xdy ?_
 refine VC.condT Z (CK ?_)
 refine xgb ?_
 refine xmg ?_
 refine VG (VO.ld 2 Z Z Z (rows_v hr) (VG (VN ?_)))
 refine CE Z (fun hz => ?_) (fun hz => CK ?_)
 ·have hz : c.q = [] := List.eq_nil_of_length_eq_zero yd
  simp only [hz] at hp
  have hwf := h.wf.turned (c' := c.c0) (h.wf.cls c (ME hc)).empty (h.wf.qs c (ME hc)) yam
  refine xgb ?_
  refine xmg ?_
  refine VG (VO.st 3 Z Z Z Z (hcrl _ Z) (crs_set (c := c.c0) Z) Z (VG (VN ?_)))
  refine xdy ?_
  refine VG (VQ 1 (ψ := fun v H => v = .tuple #[] ∧ H = pt p (rfC s S.cls.length S.cap ((S.turn + 1) % S.cls.length : Nat) true) 174) Z (fun Fr w _ _ _ => on_spec Fr w ht hn4) Z (fun v L1 ⟨h1, h2⟩ => ⟨_, h2, h1, Z⟩) ?_)
  rintro _ _ ⟨rfl, rfl⟩
  refine VG (VN (CX ⟨(N, _, s), ⟨h.setC (c' := c.c0) hc Z hwf, hp, (quanta_set (c' := c.c0) hc Z).trans hqs, few_set hB (hB c (ME hc))⟩, Nat.lt_succ_self N, sbZ, ?_⟩))
  refine (Imp.of_eq ?_).ent
  simp only [rfL, List.length_set, svs_same hc (show c.c0.served = c.served from rfl)]; rfl
 obtain ⟨g, q', hq'⟩ : ∃ g q', c.q = g :: q' := by
  cases hcq : c.q with
  | nil => rw [hcq] at hlen; exact absurd (by rw [hlen]; rfl) hz
  | cons g q' => exact ⟨g, q', rfl⟩
 obtain ⟨x, xs, hx⟩ : ∃ x xs, r.xs = x :: xs := by
  cases hrx : r.xs with
  | nil => rw [hrx] at hlen; rw [hq'] at hlen; simp at hlen
  | cons x xs => exact ⟨x, xs, rfl⟩
 obtain ⟨g', m⟩ := x
 obtain ⟨rfl, hxs⟩ : g' = g ∧ xs.map Prod.fst = q' := by rw [hx, hq'] at hl; simpa using hl
 obtain ⟨bk, off, hbk, had, hfirst⟩ := hok.first hx
 have hv : r.v = .slice (some ⟨bk, off, none⟩) (xs.length + 1) r.cap := by rw [RL.v, had, hx]; rfl
 have hrv : (s.rows.map RL.v)[0 + S.turn * 1]? = some (.slice (some ⟨bk, off, none⟩) (xs.length + 1) r.cap) := hv ▸ rows_v hr
 have hwc := h.wf.cls c (ME hc)
 simp only [hq'] at hp
 have hmem := ME hc
 have hql := h.wf.qs c hmem
 have hq0 := hwc.q0; have hq1 := hwc.q1; have hc0 := hwc.c0; have hc1 := hwc.c1; have hs0 := hwc.s0; have hsB := hB c hmem
 have hself : ∀ c' : ClsM, (S.cls.set S.turn c')[S.turn]? = some c' := fun c' => List.getElem?_set_self ht
 obtain ⟨qb, qo, hua, hFq, hqcell⟩ := hq.at_ (fun e => by have h2 : S.cls.length = 0 := by { rw [← List.length_map (f := ClsM.quantum), hqs, e]; rfl }; omega)
 have hqk : w.cell? ⟨qb, qo + S.turn * 1, none⟩ = some (.int .i64 c.quantum) := by
  rw [Nat.mul_one]
  exact hqcell _ _ (by rw [← hqs, List.getElem?_map, hc]; rfl)
 have hsu : some (Value.slice s.ua S.cls.length s.uc) = some (Value.slice (some ⟨qb, qo, none⟩) S.cls.length s.uc) := by rw [h.ua.trans hua]
 refine VC.meet (σ := Unit) (fun _ => [(0, pV p), (2, pV b), (4, .bool true), (6, .int .i64 S.turn)])
  (fun _ => pt b (fmc fmz) 46 :: pt p (rfC s S.cls.length S.cap S.turn false) 174 :: pt s.qb (s.rows.map RL.v) 65 :: pt s.cb (crs (S.cls.set S.turn (c.c1 S.fresh))) 3 :: pt s.sb (svs S.cls) 3 :: rfR s) (fun _ => True) ?_ ?_
 ·refine xgb ?_
  refine CC (t := S.fresh) Z (fun hf => ?_) (fun hf => CK ⟨(), trivial, sbZ, Ent.of_eq ?_⟩)
  ·refine CS (CD (ts 0 21 (.only 21 .nil)) ym yq ?_)
   refine xgz ?_
   refine xmh ?_
   refine VA.go (VA.ld 3 Z Z Z Z (crs_at hc) ?_)
   refine xgz ?_
   refine VA.go (AI Z (light_idx S.turn hsu Z Z Z Z Z ht) ?_)
   refine VA.go (VA.load Z Z Z (RdL.rd (v := .int .i64 c.quantum) hFq hqk) ?_)
   refine xeg ?_
   refine xmh ?_
   refine VA.go (VA.st 3 Z Z Z Z Z (hcrl _ Z) (crs_set (c := c.c1 S.fresh) (by rw [hf]; rfl)) Z yr ?_)
   refine xeh ?_
   refine xgb ?_
   refine VG (VO.st 1 Z Z Z Z ybx Z Z (VG (VN ?_)))
   exact xhh
  ·unfold rfL
   rw [hf, crs_same hc (c' := c.c1 false) rfl]
 intro _ _
 have hcost := opCost_le g'.op
 have hw1 := h.wf.c1 hc
 have hc10 := hw1.c0; have hc11 := hw1.c1
 have hc11 : (c.c1 S.fresh).credit ≤ c.quantum + 95 := hc11
 have hrowk : (rfR s)[S.turn]? = some (pt bk r.cells 46) := by rw [rf_h hr, RL.h_pt hbk]
 refine xgb ?_
 refine xmg ?_
 refine VG (VO.ld 2 Z Z Z hrv ?_)
 refine VG (VI (light_idx 0 Z Z Z Z Z Z yd) ?_)
 refine VG (VD Z Z (v := .agg (fmc (g', m)).toArray) (RdL.many (S.turn + 5) (t := 46) (cs := r.cells) hrowk (by rw [Nat.zero_mul, Nat.add_zero]; exact hfirst)) ?_)
 refine VG (VO.alloc Z fun b7 => VG (VT (vs := fmc (g', m)) (cs' := fmc (g', m)) 0 Z Z Z Z (NR _) Z Z Z (VG (VN ?_))))
 refine xdy ?_
 refine VG (VL 0 g'.op.cells Z Z Z Z (VG (VO.callV (fun Fr w => rcost_spec Fr w g'.op) Z (VG (VN ?_)))))
 refine xgc ?_
 refine xmg ?_
 refine VG (VO.ld 4 Z Z Z (crs_at (hself _)) (VG (VN ?_)))
 refine CP Z (fun hlt => ?_) (fun hlt => CK ?_)
 ·have hlt : (c.c1 S.fresh).credit < opCost g'.op := hlt
  rw [if_pos hlt] at hp
  have hwf := h.wf.turned (c' := c.c1 S.fresh) hw1 hql yd
  refine xdy ?_
  refine xmi ?_
  rintro _ _ ⟨rfl, rfl⟩
  refine VG (VN (CX ⟨(N, _, s), ⟨h.setC (c' := c.c1 S.fresh) hc Z hwf, hp, (quanta_set (c' := c.c1 S.fresh) hc Z).trans hqs, few_set hB hsB⟩, Nat.lt_succ_self N, sbZ, ?_⟩))
  refine (Imp.trans Imp.tl (Imp.of_eq ?_)).ent
  simp only [rfL, List.length_set, svs_same hc (show (c.c1 S.fresh).served = c.served from rfl)]; rfl
 have hlt : ¬ (c.c1 S.fresh).credit < opCost g'.op := hlt
 rw [if_neg hlt] at hp
 obtain ⟨hwf2, hq2⟩ := h.wf.c2 hc hq' hlt
 have hkeep := hok.tail (by rw [hx]; simp)
 have hcap1 : xs.length + 1 ≤ r.cap := by have := hok.room; rw [hx] at this; simpa using this
 refine CS (CD (ts 0 14 (.only 14 .nil)) ym yq ?_)
 refine xha ?_
 refine xmh ?_
 refine VA.go (VA.ld 3 Z Z Z Z hrv ?_)
 refine VA.go (AI Z (light_tail Z Z Z Z Z hcap1) ?_)
 refine xmh ?_
 refine VA.go (VA.st 3 Z Z Z Z Z (by show 0 + S.turn * 1 < _; simp; omega) (cs' := (s.rows.map RL.v).set S.turn (r.tail 29).v) (by show (s.rows.map RL.v).set (0 + S.turn * 1) _ = _; rw [Nat.zero_add, Nat.mul_one, ← tail_v hx had]; rfl) Z yr ?_)
 refine xeh ?_
 have hsv := svs_at hc
 have hxq : xs = [] ↔ q' = [] := by rw [← hxs]; simp
 have htx : (r.tail 29).xs = xs := by simp [RL.tail, hx]
 refine CS (CD (ts 0 29 (.only 29 (.take 30 (.only 31 .nil)))) ym yq ?_)
 refine xha ?_
 refine xmh ?_
 refine VA.go (VA.ld 4 Z Z Z Z (crs_at (hself _)) ?_)
 refine xha ?_
 refine xgl ?_
 refine xha ?_
 refine xmh ?_
 refine VA.go (VA.ld 5 Z Z Z Z hsv ?_)
 refine xha ?_
 refine xeg ?_
 refine xmh ?_
 refine VA.go (VA.st 4 Z Z Z Z Z (hcrl _ ya) (crs_set2 (c := { c with credit := (c.c1 S.fresh).credit - opCost g'.op }) Z) Z yr ?_)
 refine xmh ?_
 refine VA.go (VA.st 5 Z Z Z Z Z (by show 0 + S.turn * 1 < _; rw [svs_len]; omega) (svs_set (c := { c with served := c.served + opCost g'.op }) Z) Z yr ?_)
 refine xeh ?_
 have hrv2 : ((s.rows.map RL.v).set S.turn (r.tail 29).v)[0 + S.turn * 1]? = some (r.tail 29).v := by rw [Nat.zero_add, Nat.mul_one]; exact List.getElem?_set_self ye
 have hserved : SchM.served2 (c.served + opCost g'.op) = c.served + opCost g'.op := by unfold SchM.served2; rw [if_neg yd]
 have hrput : Imp (rfR s) (rfR { s with rows := s.rows.set S.turn (r.tail 29) }) := Imp.of_eq (by
  simp only [rfR, List.map_set]
  have : (s.rows.map fun r : FL => r.h 46)[S.turn]? = some ((r.tail 29).h 46) := (rf_h hr).trans rfl
  exact (list_set_same this).symm)
 refine xgc ?_
 refine xmg ?_
 refine VG (VO.ld 3 Z Z Z hrv2 (VG (VN ?_)))
 refine CE Z (fun hz => ?_) (fun hz => CK ?_)
 ·have hz : xs = [] := by rw [htx] at hz; exact List.eq_nil_of_length_eq_zero yd
  have hz' := hxq.1 hz
  rw [if_pos hz'] at hp
  cases hp
  have hcr : (c.c2 S.fresh f q').credit = 0 := by show (if q' = [] then 0 else (c.c1 S.fresh).credit - opCost f.op) = 0; rw [if_pos hz']
  have hwf := h.wf.turned hwf2 hq2 (by rw [hcr]; omega)
  refine xgc ?_
  refine xmg ?_
  refine VG (VO.st 4 Z Z Z Z (hcrl _ ya) (crs_set2 (c := c.c2 S.fresh f q') hcr.symm) Z (VG (VN ?_)))
  refine xdy ?_
  refine xmi ?_
  rintro _ _ ⟨rfl, rfl⟩
  refine xgk ?_
  refine xdy ?_
  refine VG (VL 0 (fmc (f, m)) Z Z Z Z (VG (VT (vs := fmc (f, m)) (cs' := fmc (f, m)) 1 Z Z Z Z (NR _) Z Z Z (VG (VN ?_)))))
  refine CR (Ret.cellTmp 2 3 Z Z Z (RdL.many 1 Z Z) Z (L' := [rfH p a ⟨S.cls.set S.turn (c.c2 S.fresh f q'), S.cap, (S.turn + 1) % S.cls.length, true⟩]) ?_ ?_)
  ·refine (Imp.trans Imp.tl (Imp.trans Imp.tl (rf_shut _ (h.set hkeep (by rw [htx, hxs]; rfl) hwf) (Imp.trans (Imp.app (L := [_, _, _, _]) (M := [_, _, _, _]) Imp.refl hrput) (Imp.of_eq ?_))))).ent
   simp only [rfL, List.length_set, List.map_set, svs_congr (l := S.cls) (k := S.turn) (c1 := { c with served := c.served + opCost f.op }) (c := c.c2 S.fresh f q') hserved.symm]; rfl
  ·unfold popRf; rw [hpm]; exact ⟨⟨m, rfl⟩, rfl⟩
 ·have hz : xs ≠ [] := fun e => hz (by rw [htx, e]; rfl)
  have hz' : q' ≠ [] := fun e => hz (hxq.2 e)
  rw [if_neg hz'] at hp
  cases hp
  have hcr : (c.c2 S.fresh f q').credit = (c.c1 S.fresh).credit - opCost f.op := by show (if q' = [] then 0 else (c.c1 S.fresh).credit - opCost f.op) = _; rw [if_neg hz']
  have hwf := h.wf.stays hwf2 hq2
  refine xdy ?_
  refine VG (VL 0 (fmc (f, m)) Z Z Z Z (VG (VT (vs := fmc (f, m)) (cs' := fmc (f, m)) 1 Z Z Z Z (NR _) Z Z Z (VG (VN ?_)))))
  refine CR (Ret.cellTmp 2 3 Z Z Z (RdL.many 1 Z Z) Z (L' := [rfH p a ⟨S.cls.set S.turn (c.c2 S.fresh f q'), S.cap, S.turn, false⟩]) ?_ ?_)
  ·refine (Imp.trans Imp.tl (Imp.trans Imp.tl (rf_shut _ (h.set hkeep (by rw [htx, hxs]; rfl) hwf) (Imp.trans (Imp.app (L := [_, _, _, _]) (M := [_, _, _, _]) Imp.refl hrput) (Imp.of_eq ?_))))).ent
   simp only [rfL, List.length_set, List.map_set, svs_congr (l := S.cls) (k := S.turn) (c1 := { c with served := c.served + opCost f.op }) (c := c.c2 S.fresh f q') hserved.symm, crs_congr (l := S.cls) (k := S.turn) (c1 := { c with credit := (c.c1 S.fresh).credit - opCost f.op }) (c := c.c2 S.fresh f q') hcr.symm]; rfl
  ·unfold popRf; rw [hpm]; exact ⟨⟨m, rfl⟩, rfl⟩
end Ref16
namespace Ref16
open Go Vg T Api Sched
attribute [local irreducible] VO VC VA
abbrev ExpS := Nat × SchM × RfS × Option Addr × Nat × List FM
structure ExpI (S0 : SchM) (a0 : Option Addr) (now : Int) (s0 : RfS) (x : ExpS) : Prop where
 le : x.1 ≤ S0.cls.length
 ok : RfOk x.2.1 a0 x.2.2.1
 cls : ∀ k, x.2.1.cls[k]? = (S0.cls[k]?).map (if k < x.1 then ClsM.expC now else id)
 cap : x.2.1.cap = S0.cap
 turn : x.2.1.turn = S0.turn
 fresh : x.2.1.fresh = S0.fresh
 room : x.2.2.2.2.2.length ≤ x.2.2.2.2.1
 gs : x.2.2.2.2.2.map Prod.fst = (S0.cls.take x.1).flatMap fun c => c.q.filter (gone now)
abbrev RowS := Nat × (Option Addr × Nat × List FM) × (Option Addr × Nat × List FM)
structure ExpJ (q : List FrameM) (now : Int) (gs0 : List FrameM) (x : RowS) : Prop where
 le : x.1 ≤ q.length
 roomG : x.2.1.2.2.length ≤ x.2.1.2.1
 gs : x.2.1.2.2.map Prod.fst = gs0 ++ (q.take x.1).filter (gone now)
 roomS : x.2.2.2.2.length ≤ x.2.2.2.1
 ss : x.2.2.2.2.map Prod.fst = (q.take x.1).filter (stay now)
theorem expire_spec (p : Nat) (a0 : Option Addr) (S0 : SchM) (now : Int) :
  Tri Tryz.prog 165 [.pointer (some ⟨p, 0, none⟩), .int .i64 now] Fr w [rfH p a0 S0] (fun v L => ∃ a c gs, gs.map Prod.fst = S0.goneM now ∧ v = .slice a gs.length c ∧ L = [rfH p a0 (S0.expM now), frH a c gs]) := by
 refine TF 86 Tryz.func165 Z ym tabOk Z Z ?_
 refine VC.opn 0 Z (HOpn.rf p a0 S0) fun s0 h0 => ?_
 refine CN (L' := rfL p S0 s0) (Imp.of_eq (List.append_nil _)).ent ?_
 have hn4 := h0.wf.n1
 refine xdy ?_
 refine VC.loop (σ := ExpS) (fun x => [(0, pV p), (1, .int .i64 now), (5, .slice x.2.2.2.1 x.2.2.2.2.2.length x.2.2.2.2.1), (6, .int .i64 x.1)]) (fun x => frH x.2.2.2.1 x.2.2.2.2.1 x.2.2.2.2.2 :: rfL p x.2.1 x.2.2.1) (ExpI S0 a0 now s0) (fun x => 4 - x.1) (0, S0, s0, none, 0, []) ⟨Nat.zero_le _, h0, fun k => by simp, Z, Z, Z, NR _, Z⟩ sbZ (Imp.slNil Imp.refl).ent ?_
 rintro ⟨i, S, s, a, c, gs⟩ ⟨hi, h, hcls, hcap, hturn, hfresh, hroom, hgs⟩
 dsimp only at hi h hcls hcap hturn hfresh hroom hgs ⊢
 have hSn : S.cls.length = S0.cls.length := by
  apply Nat.le_antisymm
  ·apply Nat.le_of_not_lt
   intro hlt
   have := hcls S0.cls.length
   rw [List.getElem?_eq_none (NR _), GE hlt] at this
   cases this
  ·apply Nat.le_of_not_lt
   intro hlt
   have := hcls S.cls.length
   rw [List.getElem?_eq_none (NR _), GE hlt] at this
   cases this
 refine xgb ?_
 refine CP Z (fun h1 => CK ?_) (fun h1 => CX ?_)
 ·have hk : i < S.cls.length := by omega
  have hk0 : i < S0.cls.length := by omega
  obtain ⟨r, cl, hr, hc, hok, hl⟩ := h.row hk
  have hc0 : S0.cls[i]? = some cl := by
   have := hcls i
   rw [hc, if_neg (Nat.lt_irrefl i)] at this
   simpa using this.symm
  have hlen : r.xs.length = cl.q.length := by have := congrArg List.length hl; simpa using this
  have hql := h.wf.qs cl (ME hc)
  have hcap16 := h.wf.cap1
  have hfew := h0.wf.fewG i now
  refine xdx ?_
  refine xep ?_
  refine VC.meet (σ := RowS) (fun x => [(0, pV p), (1, .int .i64 now), (5, .slice x.2.1.1 x.2.1.2.2.length x.2.1.2.1), (6, .int .i64 i), (7, .slice x.2.2.1 x.2.2.2.2.length x.2.2.2.1)])
   (fun x => frH x.2.1.1 x.2.1.2.1 x.2.1.2.2 :: frH x.2.2.1 x.2.2.2.1 x.2.2.2.2 :: rfL p S s) (fun x => x.1 = cl.q.length ∧ ExpJ cl.q now ((S0.cls.take i).flatMap fun c => c.q.filter (gone now)) x) ?_ ?_
  ·refine xdy ?_
   refine VC.loop (σ := RowS) (fun x => [(0, pV p), (1, .int .i64 now), (5, .slice x.2.1.1 x.2.1.2.2.length x.2.1.2.1), (6, .int .i64 i), (7, .slice x.2.2.1 x.2.2.2.2.length x.2.2.2.1), (8, .int .i64 x.1)])
    (fun x => frH x.2.1.1 x.2.1.2.1 x.2.1.2.2 :: frH x.2.2.1 x.2.2.2.1 x.2.2.2.2 :: rfL p S s) (ExpJ cl.q now ((S0.cls.take i).flatMap fun c => c.q.filter (gone now))) (fun x => 16 - x.1) (0, (a, c, gs), (none, 0, [])) ⟨Nat.zero_le _, hroom, by simpa using hgs, NR _, rfl⟩ sbZ (IP 0 rfl (Imp.slNil Imp.refl)).ent ?_
   clear hroom hgs
   rintro ⟨j, ⟨a, c, gs⟩, ⟨aS, cS, ss⟩⟩ ⟨hj, hroom, hgs, hroomS, hss⟩
   dsimp only at hj hroom hgs hroomS hss ⊢
   have hgl : gs.length ≤ 80 ∧ ss.length ≤ 16 := by
    have h2 := congrArg List.length hgs
    have h3 := List.length_filter_le (gone now) (cl.q.take j)
    have h4 := List.length_take_le j cl.q
    have h5 := congrArg List.length hss
    have h6 := List.length_filter_le (stay now) (cl.q.take j)
    rw [List.length_map, List.length_append] at h2
    rw [List.length_map] at h5
    omega
   refine zrl ?_
   refine VG (VO.ld 3 Z Z Z (rows_v hr) (VG (VN ?_)))
   refine CP Z (fun h2 => CK ?_) (fun h2 => CX ?_)
   ·have h2 : (j : Int) < r.xs.length := h2
    have hj2 : j < r.xs.length := by omega
    obtain ⟨⟨f, m⟩, hx⟩ : ∃ x, r.xs[j]? = some x := ⟨_, GE hj2⟩
    obtain ⟨bk, off, hbk, had, hrow⟩ := hok.nth hx
    have hv : r.v = .slice (some ⟨bk, off, none⟩) r.xs.length r.cap := by rw [RL.v, had]
    have hrv : (s.rows.map RL.v)[0 + i * 1]? = some (.slice (some ⟨bk, off, none⟩) r.xs.length r.cap) := hv ▸ rows_v hr
    have hrowk : (rfR s)[i]? = some (pt bk r.cells 46) := by rw [rf_h hr, RL.h_pt hbk]
    have hfq : cl.q[j]? = some f := by rw [← hl, List.getElem?_map, hx]; rfl
    have htake : cl.q.take (j + 1) = cl.q.take j ++ [f] := by rw [List.take_add_one, hfq]; rfl
    have hcell : r.cells[off + j * 29 + 6]? = some (.int .i64 f.deadline) := by
     have h3 : (fmc (f, m))[6]? = some (.int .i64 f.deadline) := rfl
     rw [← hrow, List.getElem?_take, if_pos yd, List.getElem?_drop] at h3
     exact h3
    refine zrl ?_
    refine VG (VO.ld 3 Z Z Z hrv ?_)
    refine xmj ?_
    refine VG (VO.ld (i + 6) (t := 46) (cs := r.cells) Z hrowk Z hcell (VG (VN ?_)))
    have step : ∀ (x : RowS), x.1 = j + 1 → ExpJ cl.q now ((S0.cls.take i).flatMap fun c => c.q.filter (gone now)) x → True := fun _ _ _ => trivial
    refine CP Z (fun h3 => ?_) (fun h3 => ?_)
    ·have h3 : f.deadline < now := h3
     have hg : gone now f = true := by simp [gone, h3]
     have hs : stay now f = false := by simp [stay, hg]
     refine zrl ?_
     refine VG (VO.ld 3 Z Z Z hrv ?_)
     refine xmj ?_
     refine xmk ?_
     refine VG (VO.buildSlice (n := 1) (pv := [(0, .agg (fmc (f, m)).toArray)]) (fmc (f, m)) Z Z Z Z yy (fill_one Z Z Z) fun nb => ?_)
     refine VG (VO.append (m := 1) (news := fmc (f, m)) 1 Z Z Z Z Z Z Z (RdRow.pt 0 Z Z Z) Z yao yd fun a' c' hc' => VG (VN ?_))
     refine zpg ?_
     have hL : (gs ++ [(f, m)]).length = gs.length + 1 := by simp
     refine ⟨(j + 1, (a', c', gs ++ [(f, m)]), (aS, cS, ss)), ⟨by dsimp only; omega, by dsimp only; rw [hL]; exact hc', ?_, hroomS, by dsimp only; rw [hss, htake, List.filter_append]; simp [hs]⟩, by dsimp only; omega, SC Z (SC Z (SC yag sbZ)), ?_⟩
     ·dsimp only; rw [List.map_append, hgs, htake, List.filter_append, List.append_assoc]; simp [hg]
     ·dsimp only
      rw [← frH_snoc]
      exact (Imp.cons Imp.tl).ent
    ·have h3 : ¬ f.deadline < now := h3
     have hg : gone now f = false := by simp [gone]; omega
     have hs : stay now f = true := by simp [stay, hg]
     refine zrl ?_
     refine VG (VO.ld 3 Z Z Z hrv ?_)
     refine xmj ?_
     refine xmk ?_
     refine VG (VO.buildSlice (n := 1) (pv := [(0, .agg (fmc (f, m)).toArray)]) (fmc (f, m)) Z Z Z Z yy (fill_one Z Z Z) fun nb => ?_)
     refine VG (VO.append (m := 1) (news := fmc (f, m)) 2 Z Z Z Z Z Z Z (RdRow.pt 0 Z Z Z) Z (by show (ss.length + 1) * 288 ≤ _; omega) yd fun a' c' hc' => VG (VN ?_))
     refine zpg ?_
     have hL : (ss ++ [(f, m)]).length = ss.length + 1 := by simp
     refine ⟨(j + 1, (a, c, gs), (a', c', ss ++ [(f, m)])), ⟨by dsimp only; omega, hroom, by dsimp only; rw [hgs, htake, List.filter_append]; simp [hg], by dsimp only; rw [hL]; exact hc', ?_⟩, by dsimp only; omega, SC Z (SC Z (SC Z (SC Z (SC yag sbZ)))), ?_⟩
     ·dsimp only; rw [List.map_append, hss, htake, List.filter_append]; simp [hs]
     ·dsimp only
      rw [← frH_snoc]
      refine (IP 2 Z ?_).ent
      refine IP 0 Z ?_
      exact Imp.tl
   ·have h2 : ¬ (j : Int) < r.xs.length := h2
    exact ⟨(j, (a, c, gs), (aS, cS, ss)), ⟨by dsimp only; omega, ⟨hj, hroom, hgs, hroomS, hss⟩⟩, sbZ, ER⟩
  clear hroom hgs
  rintro ⟨j, ⟨a, c, gs⟩, ⟨aS, cS, ss⟩⟩ ⟨hj0, ⟨hj, hroom, hgs, hroomS, hss⟩⟩
  dsimp only at hj0 hj hroom hgs hroomS hss ⊢
  subst hj0
  rw [List.take_length] at hgs hss
  refine VC.opn 1 Z (HOpn.rl _ aS cS ss fmc_len) fun r' ⟨hok', hv', hx'⟩ => ?_
  have hle2 := List.length_filter_le (stay now) cl.q
  have hki : i < s.rows.length := by rw [h.len]; exact hk
  have hwf' : SchM.Wf ⟨S.cls.set i (cl.expC now), S.cap, S.turn, S.fresh⟩ := h.wf.set hc ((h.wf.cls cl (ME hc)).exp now) yap (fun hl => by
   have := h.wf.low i cl hc hl
   show (if cl.q.filter (stay now) = [] then 0 else cl.credit) ≤ 95
   split <;> omega)
  have hnext : ExpI S0 a0 now s0 (i + 1, ⟨S.cls.set i (cl.expC now), S.cap, S.turn, S.fresh⟩, { s with rows := s.rows.set i r' }, a, c, gs) := by
   refine ⟨hk0, h.set hok' (by rw [hx', hss]; rfl) hwf', fun k => ?_, hcap, hturn, hfresh, hroom, ?_⟩
   ·dsimp only
    by_cases hik : i = k
    ·subst hik
     rw [List.getElem?_set_self hk, hc0, if_pos (Nat.lt_succ_self i)]; rfl
    ·rw [List.getElem?_set_ne hik, hcls k]
     congr 1
     by_cases h9 : k < i
     ·rw [if_pos h9, if_pos yd]
     ·rw [if_neg h9, if_neg yd]
   ·dsimp only; rw [hgs, List.take_add_one, hc0, List.flatMap_append]; simp
  refine CN (L' := r'.h 46 :: frH a c gs :: rfL p S s) ER ?_
  refine zrl ?_
  refine VG (VO.st 3 Z Z Z Z (by show 0 + i * 1 < _; simp; omega) (cs' := (s.rows.map RL.v).set i r'.v) (by show (s.rows.map RL.v).set (0 + i * 1) _ = _; rw [Nat.zero_add, Nat.mul_one, hv']) Z (VG (VN ?_)))
  refine xdy ?_
  refine CE Z (fun hz => ?_) (fun hz => CK ?_)
  ·have hz : cl.q.filter (stay now) = [] := by rw [← hss, List.eq_nil_of_length_eq_zero (l := ss) yd]; rfl
   have hcr : (cl.expC now).credit = 0 := by show (if cl.q.filter (stay now) = [] then 0 else cl.credit) = 0; rw [if_pos hz]
   refine zrl ?_
   refine VG (VO.st 4 Z Z Z Z (by show 0 + i * 1 < _; rw [crs_len]; omega) (crs_set (c := cl.expC now) hcr.symm) Z (VG (VN ?_)))
   refine zpg ?_
   refine ⟨_, hnext, by dsimp only; omega, SC Z (SC Z (SC Z (SC Z (SN _)))), ?_⟩
   refine (IP 1 Z ?_).ent
   refine xml ?_
   simp only [rfL, List.length_set, List.map_set, svs_same hc (show (cl.expC now).served = cl.served from rfl)]; rfl
  ·have hz : cl.q.filter (stay now) ≠ [] := fun e => hz (by have := congrArg List.length hss; rw [e] at this; simp at this; simp [this])
   have hcr : (cl.expC now).credit = cl.credit := by show (if cl.q.filter (stay now) = [] then 0 else cl.credit) = _; rw [if_neg hz]
   refine zpg ?_
   refine ⟨_, hnext, by dsimp only; omega, SC Z (SC Z (SC Z (SC Z (SN _)))), ?_⟩
   refine (IP 1 Z ?_).ent
   refine xml ?_
   simp only [rfL, List.length_set, List.map_set, svs_same hc (show (cl.expC now).served = cl.served from rfl), crs_same hc hcr]; rfl
 ·have hk : i = S0.cls.length := by omega
  subst hk
  rw [List.take_length] at hgs
  refine xdy ?_
  have e : S = S0.expM now := by
   obtain ⟨cls, cap, turn, fresh⟩ := S
   dsimp only at hcls hcap hturn hfresh
   subst hcap; subst hturn; subst hfresh
   show SchM.mk _ _ _ _ = SchM.mk _ _ _ _
   congr 1
   apply List.ext_getElem?
   intro k
   rw [hcls k, List.getElem?_map]
   by_cases h9 : k < S0.cls.length
   ·rw [if_pos h9]
   ·rw [List.getElem?_eq_none yd]; rfl
  subst e
  refine CR (Ret.tmp 4 Z Z (Imp.trans (Imp.perm (List.perm_append_comm (l₁ := [_]))) (Imp.app (L := rfL p _ s) (rf_shut s h Imp.refl) Imp.refl)).ent ⟨a, c, gs, hgs, Z, Z⟩)
end Ref16
namespace Nd
open Go Vg T Api Kv Ch Lg Rd Win Adm Sched Conf Rep Ref16 Rk
attribute [local irreducible] VO VC VA
section
variable {p : Nat} {C : ConfM} {ca : Option Addr} {cc : Nat} {A : AdmM} {sp : Nat}
theorem rseq_at {k : Nat} {m : MkM} (h : A.marks[k]? = some m) : (radCs C ca cc A sp)[0 + 13 + k * 1]? = some (.int .i64 m.1) := by
 have hk := (List.getElem?_eq_some_iff.1 h).1
 unfold radCs
 rw [List.getElem?_append_right ycf, ConfM.cells_len, show 0 + 13 + k * 1 - 12 = k + 1 from by omega, List.getElem?_cons_succ, List.getElem?_append_left yp, List.getElem?_map, h]; rfl
theorem rtry_at (hm : A.marks.length = 6) {k : Nat} {m : MkM} (h : A.marks[k]? = some m) : (radCs C ca cc A sp)[0 + 19 + k * 1]? = some (.int .i64 m.2) := by
 have hk := (List.getElem?_eq_some_iff.1 h).1
 unfold radCs
 rw [List.getElem?_append_right ycf, ConfM.cells_len, show 0 + 19 + k * 1 - 12 = (k + 6) + 1 from by omega, List.getElem?_cons_succ, List.getElem?_append_right ye, List.length_map, hm, Nat.add_sub_cancel, List.getElem?_map, h]; rfl
def radC1 (C : ConfM) (ca : Option Addr) (cc : Nat) (A : AdmM) (sp : Nat) (k : Nat) (s : Int) : List Value := C.cells ca cc ++ (.pointer (some ⟨sp, 0, none⟩) :: (((A.marks.map fun m => .int .i64 m.1).set k (.int .i64 s)) ++ (A.marks.map fun m => .int .i64 m.2)))
theorem rad_set1 {k : Nat} (hk : k < A.marks.length) (s : Int) : (radCs C ca cc A sp).set (0 + 13 + k * 1) (.int .i64 s) = radC1 C ca cc A sp k s := by
 unfold radCs radC1
 rw [List.set_append, if_neg ycf, ConfM.cells_len, show 0 + 13 + k * 1 - 12 = k + 1 from by omega, List.set_cons_succ, List.set_append, if_pos yp]
theorem rad_set2 (hm : A.marks.length = 6) {k : Nat} (hk : k < 6) (s t : Int) : (radC1 C ca cc A sp k s).set (0 + 19 + k * 1) (.int .i64 t) = radCs C ca cc (A.setMark k (s, t)) sp := by
 unfold radCs radC1
 rw [List.set_append, if_neg ycf, ConfM.cells_len, show 0 + 19 + k * 1 - 12 = (k + 6) + 1 from by omega, List.set_cons_succ, List.set_append, if_neg ye, List.length_set, List.length_map, hm, Nat.add_sub_cancel]
 show _ ++ (_ :: (_ ++ _)) = _ ++ (_ :: (((A.marks.set (k : Int).toNat (s, t)).map fun m => Value.int .i64 m.1) ++ ((A.marks.set (k : Int).toNat (s, t)).map fun m => Value.int .i64 m.2)))
 rw [List.map_set, List.map_set, Int.toNat_natCast]
theorem rad_len (hm : A.marks.length = 6) : (radCs C ca cc A sp).length = 25 := by unfold radCs; simp [hm, ConfM.cells_len]
theorem rad_len1 (hm : A.marks.length = 6) {k : Nat} {s : Int} : (radC1 C ca cc A sp k s).length = 25 := by unfold radC1; simp [hm, ConfM.cells_len]
theorem ris_spec (hc : C.clients = A.clients) (h : Blk Fr w p (radCs C ca cc A sp)) (k : Int) : Tri Tryz.prog 170 [.pointer (some ⟨p, 0, none⟩), .int .i64 k] Fr w [] (fun v L => v = .bool (A.has k) ∧ L = []) := by
 have e : A.has k = decide (0 ≤ k ∧ k < C.clients) := by rw [AdmM.has, hc]
 rw [e]
 refine TF 16 Tryz.func170 Z ym tabOk Z Z ?_
 refine xdy ?_
 refine VG (VO.split 7 Z Z (fun h2 => ?_) (fun h2 => ?_))
 ·have h2 := of_decide_eq_true h2
  refine xeb ?_
  exact xhc
 ·have h2 := of_decide_eq_false h2
  refine xdy ?_
  exact xhc
theorem has_at {A : AdmM} (hm : A.marks.length = 6) (h6 : A.clients ≤ 6) {k : Int} (h : A.has k = true) : ∃ (n : Nat) (m : MkM), k = n ∧ n < 6 ∧ A.marks[n]? = some m ∧ A.mark k = m := by
 have h := of_decide_eq_true h
 have hlt : k.toNat < A.marks.length := by omega
 exact ⟨k.toNat, A.marks[k.toNat], by omega, by omega, GE hlt, by rw [AdmM.mark, GE hlt]; rfl⟩
theorem rbarred_spec (hc : C.clients = A.clients) (hm : A.marks.length = 6) (h6 : A.clients ≤ 6) (h : Blk Fr w p (radCs C ca cc A sp)) (k s t : Int) :
  Tri Tryz.prog 171 [.pointer (some ⟨p, 0, none⟩), .int .i64 k, .int .i64 s, .int .i64 t] Fr w [] (fun v L => v = .bool (A.barred k s t) ∧ L = []) := by
 refine TF 37 Tryz.func171 Z ym tabOk Z Z ?_
 refine xdy ?_
 refine VG (VV (fun Fr w hF hs _ => ris_spec Fr w hc (h.of hF hs) k) Z ?_)
 refine xdy ?_
 refine CC Z (fun h1 => ?_) (fun h1 => CK ?_)
 ·have h1 : A.has k = false := by simpa using h1
  refine xdy ?_
  exact CR (Ret.bool 8 Z Z (by rw [AdmM.barred, h1]; rfl) ER ⟨rfl, Z⟩)
 have h1 : A.has k = true := by simpa using h1
 obtain ⟨n, m, rfl, hn, hat, hmk⟩ := has_at hm h6 h1
 refine xdy ?_
 refine xig ?_
 refine VG (VD Z Z (RdL.blk h (rseq_at hat)) ?_)
 refine xdy ?_
 refine VC.condNE (i := s) (j := m.1) Z (fun h2 => ?_) (fun h2 => CK ?_)
 ·refine xdy ?_
  refine xig ?_
  refine VG (VD Z Z (RdL.blk h (rseq_at hat)) ?_)
  refine xdy ?_
  refine CR (Ret.bool 8 Z Z ?_ ER ⟨rfl, Z⟩)
  rw [AdmM.barred, h1, hmk, aheadM]
  have hb : (m.1 == s) = false := by rw [beq_eq_false_iff_ne]; exact fun e => h2 e.symm
  rw [hb, Bool.false_and, Bool.or_false, Bool.true_and]
  by_cases h3 : s < m.1
  ·rw [DT h3, DF yd]; rfl
  ·rw [DF h3, DT yd]; rfl
 ·refine xdy ?_
  refine xig ?_
  refine VG (VD Z Z (RdL.blk h (rtry_at hm hat)) ?_)
  refine xdy ?_
  refine CR (Ret.bool 8 Z Z ?_ ER ⟨rfl, Z⟩)
  rw [AdmM.barred, h1, hmk, aheadM]
  have hb : (m.1 == s) = true := by rw [beq_iff_eq]; exact h2.symm
  show _ = (true && !(decide (m.1 < s) || (m.1 == s) && decide (m.2 < t)))
  rw [hb, DF (show ¬ m.1 < s by omega), Bool.false_or, Bool.true_and, Bool.true_and]
  by_cases h3 : t ≤ m.2
  ·rw [DT h3, DF yd]; rfl
  ·rw [DF h3, DT yd]; rfl
theorem rbar_spec (hc : C.clients = A.clients) (hm : A.marks.length = 6) (h6 : A.clients ≤ 6) (k s t : Int) :
  Tri Tryz.prog 94 [.pointer (some ⟨p, 0, none⟩), .int .i64 k, .int .i64 s, .int .i64 t] Fr w [pt p (radCs C ca cc A sp) radT] (fun v L => v = .int .i64 (A.barM k s t).1 ∧ L = [pt p (radCs C ca cc (A.barM k s t).2 sp) radT]) := by
 have bad : ¬ (A.has k && numM s && numM t) = true → A.barM k s t = (2, A) := fun h => by rw [AdmM.barM, if_neg h]
 refine TF 47 Tryz.func94 Z ym tabOk Z Z ?_
 refine xep ?_
 refine CS ?_
 refine CS ?_
 refine VC.meetS (σ := Unit) (fun _ => [(0, pV p), (1, .int .i64 k), (2, .int .i64 s), (3, .int .i64 t), (28, .bool (!(A.has k && numM s && numM t)))]) (fun _ => [pt p (radCs C ca cc A sp) radT]) (fun _ => True) ?_ ?_
 ·refine CG ?_
  refine VG (VV (fun Fr w hF hs hS => ris_spec Fr w hc (hS.blk 0 Z) k) Z ?_)
  refine xlf ?_
  have tail : ∀ {E : Env} {q : Bool}, Vg.look E 0 = some (.pointer (some ⟨p, 0, none⟩)) → Vg.look E 1 = some (.int .i64 k) → Vg.look E 2 = some (.int .i64 s) → Vg.look E 3 = some (.int .i64 t) → Vg.look E 28 = some (.bool q) → q = (!(A.has k && numM s && numM t)) →
    Sub [(0, pV p), (1, .int .i64 k), (2, .int .i64 s), (3, .int .i64 t), (28, .bool (!(A.has k && numM s && numM t)))] E := fun h0 h1 h2 h3 h4 h5 => SC h0 (SC h1 (SC h2 (SC h3 (SC (by rw [h4, h5]) (SN _)))))
  cases h1 : A.has k with
  | false =>
   refine VG (VY 13 true Z Z ?_)
   refine xlf ?_
   refine VG (VY 17 true Z Z ?_)
   refine xlf ?_
   refine VG (VY 21 true Z Z ?_)
   refine xlf ?_
   refine VG (VY 25 true Z Z ?_)
   refine xlf ?_
   exact ⟨(), trivial, by simpa [h1] using tail Z Z Z Z Z yf, ER⟩
  | true =>
   refine VG (VY 13 false Z Z ?_)
   refine xlf ?_
   by_cases h2 : s < 1
   ·have hs : numM s = false := by simp [numM, show ¬ 1 ≤ s by omega]
    refine VG (VY 17 true Z (DT h2) ?_)
    refine xlf ?_
    refine VG (VY 21 true Z Z ?_)
    refine xlf ?_
    refine VG (VY 25 true Z Z ?_)
    refine xlf ?_
    exact xmm
   refine VG (VY 17 false Z (DF h2) ?_)
   refine xlf ?_
   by_cases h3 : 1099511627776 < s
   ·have hs : numM s = false := by simp [numM, show ¬ s ≤ 1099511627776 by omega]
    refine VG (VY 21 true Z (DT h3) ?_)
    refine xlf ?_
    refine VG (VY 25 true Z Z ?_)
    refine xlf ?_
    exact xmm
   have hs : numM s = true := by simp [numM]; omega
   refine VG (VY 21 false Z (DF h3) ?_)
   refine xlf ?_
   by_cases h4 : t < 1
   ·have ht : numM t = false := by simp [numM, show ¬ 1 ≤ t by omega]
    refine VG (VY 25 true Z (DT h4) ?_)
    refine xlf ?_
    exact ⟨(), trivial, by simpa [h1] using tail Z Z Z Z Z (by simp [h1, hs, ht]), ER⟩
   refine VG (VY 25 false Z (DF h4) ?_)
   refine xlf ?_
   have hd : decide (1099511627776 < t) = !(A.has k && numM s && numM t) := by
    rw [h1, hs, Bool.true_and, Bool.true_and]
    by_cases h5 : 1099511627776 < t
    ·rw [DT h5]; simp [numM]; omega
    ·rw [DF h5]; simp [numM]; omega
   exact ⟨(), trivial, by simpa [h1] using tail Z Z Z Z Z hd, ER⟩
 rintro _ -
 refine CC Z (fun hb => ?_) (fun hb => CK ?_)
 ·have hb : ¬ (A.has k && numM s && numM t) = true := fun h => by rw [h] at hb; cases hb
  refine xdy ?_
  exact CR (Ret.int 8 Z Z (by rw [bad hb]) ER ⟨rfl, by rw [bad hb]⟩)
 have hb : (A.has k && numM s && numM t) = true := by simpa using hb
 have hh : A.has k = true := by simp only [Bool.and_eq_true] at hb; exact hb.1.1
 have hbar : A.barM k s t = (0, A.barF k s t) := by rw [AdmM.barM, if_pos hb]
 rw [hbar]
 refine CS ?_
 refine VC.meetS (σ := Unit) (fun _ => []) (fun _ => [pt p (radCs C ca cc (A.barF k s t) sp) radT]) (fun _ => True) ?_ ?_
 rotate_left
 ·rintro _ -
  refine xdy ?_
  exact CR (Ret.int 8 Z Z Z ER ⟨rfl, Z⟩)
 refine xdy ?_
 refine VG (VV (fun Fr w hF hs hS => rbarred_spec Fr w hc hm h6 (hS.blk 0 Z) k s t) Z ?_)
 refine xdy ?_
 have hbr : A.barred k s t = !aheadM (A.mark k) (s, t) := by rw [AdmM.barred, hh]; rfl
 refine CC Z (fun h1 => ?_) (fun h1 => CK ?_)
 rotate_left
 ·have h2 : ¬ aheadM (A.mark k) (s, t) = true := by rw [hbr] at h1; simpa using h1
  exact ⟨(), trivial, SN _, by rw [AdmM.barF, if_neg h2]; exact ER⟩
 have h2 : aheadM (A.mark k) (s, t) = true := by rw [hbr] at h1; simpa using h1
 obtain ⟨n, m, rfl, hn, hat, hmk⟩ := has_at hm h6 hh
 refine CD (ts 0 9 (.take 10 (.take 11 (.only 9 (.take 12 (.only 13 .nil)))))) ym yq ?_
 refine xeh ?_
 refine xij ?_
 refine VA.go (VA.st 0 Z Z Z Z Z (by show 0 + 13 + n * 1 < (radCs C ca cc A sp).length; rw [rad_len hm]; omega) (cs' := radC1 C ca cc A sp n s) (rad_set1 yd s) Z yr ?_)
 refine xeh ?_
 refine xij ?_
 refine VA.go (VA.st 0 Z Z Z Z Z (by show 0 + 19 + n * 1 < (radC1 C ca cc A sp n s).length; rw [rad_len1 hm]; omega) (cs' := radCs C ca cc (A.setMark n (s, t)) sp) (rad_set2 hm hn s t) Z yr ?_)
 refine xeh ?_
 exact ⟨(), trivial, SN _, by rw [AdmM.barF, if_pos h2]; exact ER⟩
end
end Nd
namespace Nd
open Go Vg T Api Kv Ch Lg Rd Win Adm Sched Conf Rep Ref16 Rk
attribute [local irreducible] VO VC VA
structure RaOk (C : ConfM) (A : AdmM) : Prop where
 cl : C.clients = A.clients
 marks : A.marks.length = 6
 c6 : A.clients ≤ 6
 qs : A.sch.cls.map ClsM.quantum = C.qs
def rwaits (S : SchM) (k : Int) : Int × Bool := match S.waitM.find? (fun f => f.client == k) with
 | some f => (f.seq, true)
 | none => (0, false)
theorem barM_same (A : AdmM) (k s t : Int) : (A.barM k s t).2.clients = A.clients ∧ (A.barM k s t).2.marks.length = A.marks.length ∧ (A.barM k s t).2.sch = A.sch := by
 unfold AdmM.barM
 split
 ·unfold AdmM.barF
  split
  ·exact ⟨rfl, by simp [AdmM.setMark], Z⟩
  ·exact ⟨rfl, Z, Z⟩
 ·exact ⟨rfl, Z, Z⟩
def barAll (A : AdmM) (gs : List FrameM) : AdmM := gs.foldl (fun A f => (A.barM f.client f.seq f.try_).2) A
theorem barAll_snoc (A : AdmM) (gs : List FrameM) (f : FrameM) : barAll A (gs ++ [f]) = ((barAll A gs).barM f.client f.seq f.try_).2 := by simp [barAll]
theorem barAll_same : ∀ (gs : List FrameM) (A : AdmM), (barAll A gs).clients = A.clients ∧ (barAll A gs).marks.length = A.marks.length ∧ (barAll A gs).sch = A.sch
 | [], A => ⟨rfl, rfl, rfl⟩
 | f :: gs, A => by
  obtain ⟨h1, h2, h3⟩ := barAll_same gs (A.barM f.client f.seq f.try_).2
  obtain ⟨k1, k2, k3⟩ := barM_same A f.client f.seq f.try_
  exact ⟨h1.trans k1, h2.trans k2, h3.trans k3⟩
def raExp (A : AdmM) (now : Int) : AdmM := barAll (A.withSch (A.sch.expM now)) (A.sch.goneM now)
def raNext (A : AdmM) (now : Int) : AdmM := (raExp A now).withSch (popV (raExp A now).sch).2.2
def raW (A : AdmM) (f : FrameM) (now : Int) : Int × AdmM :=
 if A.barred f.client f.seq f.try_ then (7, A)
 else if (rwaits A.sch f.client).2 = true ∧ (rwaits A.sch f.client).1 = f.seq then (6, A)
 else if (rwaits A.sch f.client).2 = true then (1, A)
 else if f.deadline < now then (2, A)
 else if (A.sch.pushM f).1 ≠ 0 then (1, A.withSch (A.sch.pushM f).2) else (0, A.withSch (A.sch.pushM f).2)
def raOffer (A : AdmM) (f : FrameM) (now : Int) : Int × AdmM :=
 if A.may f then if (raW A f now).1 ≠ 0 ∧ (raW A f now).1 ≠ 6 then ((raW A f now).1, ((raW A f now).2.barM f.client f.seq f.try_).2) else raW A f now else (10, A)
theorem find_none_take {l : List FrameM} {k : Int} {i : Nat} {f : FrameM} (h : ∀ (j : Nat) (x : FrameM), j < i → l[j]? = some x → x.client ≠ k) (hf : l[i]? = some f) (hk : f.client = k) : l.find? (fun f => f.client == k) = some f := by
 induction l generalizing i with
 | nil => cases hf
 | cons x l ih =>
  cases i with
  | zero =>
   obtain rfl : x = f := by simpa using hf
   rw [List.find?_cons_of_pos yp]
  | succ i =>
   rw [List.find?_cons_of_neg (by simpa using h 0 x yd rfl)]
   exact ih (i := i) (fun j y hj hy => h (j + 1) y yd yl) (by simpa using hf)
theorem find_none_all {l : List FrameM} {k : Int} (h : ∀ (j : Nat) (x : FrameM), l[j]? = some x → x.client ≠ k) : l.find? (fun f => f.client == k) = none := by
 rw [List.find?_eq_none]
 intro x hx
 obtain ⟨j, hj⟩ := List.getElem?_of_mem hx
 simpa using h j x hj
theorem rreads_spec (o : OpM) : Tri Tryz.prog 112 [.agg o.cells.toArray] Fr w [] (fun v L => v = .bool (readsM o) ∧ L = []) := by
 refine TF 11 Tryz.func112 Z ym tabOk Z Z ?_
 refine CS (CG (VG (VB (vs := o.cells) Z (fun b => VG (VN ?_)))))
 refine xdy ?_
 refine VG (VO.split 6 Z Z (fun h1 => ?_) (fun h1 => ?_))
 ·have h1 : o.kind = 1 := eq_of_beq h1
  refine VG (VL 0 o.cells Z Z Z Z ?_)
  refine VG (VO.callV (fun Fr w => rcheck_spec Fr w o) Z ?_)
  refine xdy ?_
  exact CR (Ret.bool 2 Z Z (by simp [h1, readsM]) Imp.nil.ent ⟨rfl, Z⟩)
 ·have h1 : o.kind ≠ 1 := ne_of_beq_false h1
  refine xdy ?_
  exact CR (Ret.bool 2 Z Z (by simp [h1, readsM]) Imp.nil.ent ⟨rfl, Z⟩)
section
variable {p : Nat} {C : ConfM} {ca : Option Addr} {cc : Nat} {A : AdmM} {sp : Nat}
structure RadIn (Fr : Nat → Prop) (w : World) (p : Nat) (C : ConfM) (ca : Option Addr) (cc : Nat) (A : AdmM) (sp : Nat) : Prop where
 blk : Blk Fr w p (radCs C ca cc A sp)
 sch : SatIn Fr [rfH sp ca A.sch] w
theorem RadIn.of {Fr : Nat → Prop} {w : World} (h : SatIn Fr [radH p C ca cc A] w) : ∃ sp, RadIn Fr w p C ca cc A sp := by
 obtain ⟨sp, h⟩ := h.ex
 have h := h.sep
 exact ⟨sp, h.blk 0 Z, h.at_ 1 Z⟩
theorem rwaits_spec (h : RadIn Fr w p C ca cc A sp) (k : Int) : Tri Tryz.prog 234 [.pointer (some ⟨p, 0, none⟩), .int .i64 k] Fr w []
  (fun v L => v = .tuple #[.int .i64 (rwaits A.sch k).1, .bool (rwaits A.sch k).2] ∧ L = []) := by
 have hb := h.blk
 refine TF 31 Tryz.func234 Z ym tabOk Z Z ?_
 refine xep ?_
 refine xhm ?_
 refine VG (VD Z Z (RdL.blk hb Z) ?_)
 refine VG (VK (Lc := []) (fun Fr w hF hs hS => Ref16.waiting_spec Fr w (h.sch.of hF hs)) Z Z ?_)
 rintro _ _ ⟨a, c, gs, hgs, rfl, rfl⟩
 refine xgk ?_
 refine VC.opn 0 Z (HOpn.rl frT a c gs fmc_len) ?_
 rintro r ⟨hok, hv, hrx⟩
 rw [← hv]
 rw [← hrx] at hgs
 have hgl : A.sch.waitM.length = r.xs.length := by rw [← hgs, List.length_map]
 have hr64 : r.xs.length ≤ 1000000 := by
  obtain ⟨s, hs⟩ := RfIn.of h.sch
  have := hs.ok.wf.few A.sch.cls.length
  rw [List.take_length] at this
  have : A.sch.waitM.length ≤ 64 := this
  omega
 refine CS (CS (CG (VG (VN ?_))))
 show VC _ _ _ _ _
 refine xjt ?_
 refine VC.loop (σ := Nat) (fun i => [(1, .int .i64 k), (6, .slice r.addr r.xs.length r.cap), (7, .int .i64 i)]) (fun _ => [r.h frT]) (fun i => i ≤ r.xs.length ∧ ∀ j x, j < i → A.sch.waitM[j]? = some x → x.client ≠ k) (fun i => r.xs.length - i) 0
  ⟨Nat.zero_le _, fun j x hj => by omega⟩ sbZ ER ?_
 rintro i ⟨hi, hno⟩
 refine xel ?_
 refine CP (p := (i : Int) < (r.xs.length : Int)) Z (fun h1 => CK ?_) (fun h1 => CX ?_)
 rotate_left
 ·show VC _ _ _ _ _
  refine xdy ?_
  exact CR (Ret.tmp2 4 5 Z Z Z Imp.nil.ent ⟨by
   rw [rwaits, find_none_all (fun j x hx => hno j x (by have := (List.getElem?_eq_some_iff.1 hx).1; omega) hx)], rfl⟩)
 have h1 : i < r.xs.length := by omega
 obtain ⟨y, hy⟩ : ∃ y, r.xs[i]? = some y := ⟨_, GE h1⟩
 have hyl : A.sch.waitM[i]? = some y.1 := by rw [← hgs, List.getElem?_map, hy]; rfl
 obtain ⟨tb, tof, htb, hta, hrd⟩ := RL.Ok.ld (t := frT) hok hy (fmc_len y)
 rw [hta]
 refine xel ?_
 refine xmn ?_
 refine xel ?_
 refine VG (VD Z Z ((hrd 0 Z).2 _ 2 _ Z Z) ?_)
 refine xel ?_
 refine CE (i := y.1.client) (j := k) Z (fun h2 => ?_) (fun h2 => CK ?_)
 ·refine xel ?_
  refine xmn ?_
  refine xel ?_
  refine VG (VD Z Z ((hrd 0 Z).2 _ 3 _ Z Z) ?_)
  refine xel ?_
  exact CR (Ret.tmp2 4 5 Z Z Z Imp.nil.ent ⟨by rw [rwaits, find_none_take hno hyl h2], Z⟩)
 ·rw [← hta]
  refine xel ?_
  refine zrk ?_
  exact ⟨i + 1, ⟨h1, fun j x hj hx => by
   by_cases hji : j = i
   ·subst hji; rw [hyl] at hx; cases hx; exact h2
   ·exact hno j x yd hx⟩, by dsimp only; omega, sbZ, ER⟩
theorem rmay_spec (ra : RaOk C A) (h : RadIn Fr w p C ca cc A sp) (f : FM) : Tri Tryz.prog 180 [.pointer (some ⟨p, 0, none⟩), .agg (fmc f).toArray] Fr w [] (fun v L => v = .bool (A.may f.1) ∧ L = []) := by
 have hb := h.blk
 obtain ⟨s, hs⟩ := RfIn.of h.sch
 have hs0 := hs.at0
 refine TF 65 Tryz.func180 Z ym tabOk Z Z ?_
 refine CS (CG (VG (VB (vs := fmc f) Z fun b => VG (VN ?_))))
 refine VC.meet (σ := Bool) (fun b => [(4, .bool b)]) (fun _ => []) (fun b => b = A.may f.1) ?_ ?_
 rotate_left
 ·rintro b rfl
  exact CR (Ret.bool 4 Z Z Z ER ⟨rfl, Z⟩)
 refine CD (ts 0 7 (.only 7 (ts 8 28 (.only 36 (ts 37 14 (.only 51 (ts 52 5 (.only 57 (ts 58 3 .nil))))))))) ym yq ?_
 refine xeh ?_
 refine VA.go (VA.split 8 Z Z (fun h8 => ?_) (fun h8 => ?_))
 rotate_left
 ·have h8 : ¬ (f.1.kind = 1) := by simpa using h8
  refine xil ?_
  refine VA.go (AY 14 false Z Z ?_)
  refine xim ?_
  refine zrd ?_
  refine xmo ?_
  refine zrn ?_
  exact ⟨false, by show false = AdmM.may A f.1; rw [AdmM.may]; (simp [numM, h8]), sbZ, Imp.nil.ent⟩
 have h8 : f.1.kind = 1 := by simpa using h8
 refine xeh ?_
 refine VA.go (AR (fun Fr w hF hs hS => ris_spec Fr w ra.cl (hb.of hF hs) f.1.client) Z Z yx ?_)
 refine VA.go (VA.split 14 Z Z (fun h14 => ?_) (fun h14 => ?_))
 rotate_left
 ·have h14 : ¬ (A.has f.1.client = true) := by simpa using h14
  refine xim ?_
  refine zrd ?_
  refine xmo ?_
  refine zrn ?_
  exact ⟨false, by show false = AdmM.may A f.1; rw [AdmM.may]; (simp [numM, h14]), sbZ, Imp.nil.ent⟩
 have h14 : A.has f.1.client = true := by simpa using h14
 refine xeh ?_
 refine VA.go (VA.split 19 Z Z (fun h19 => ?_) (fun h19 => ?_))
 rotate_left
 ·have h19 : ¬ (1 ≤ f.1.seq) := by simpa using h19
  refine zrd ?_
  refine xmo ?_
  refine zrn ?_
  exact ⟨false, by show false = AdmM.may A f.1; rw [AdmM.may]; (simp [numM, h19]), sbZ, Imp.nil.ent⟩
 have h19 : 1 ≤ f.1.seq := by simpa using h19
 refine xeh ?_
 refine VA.go (VA.split 24 Z Z (fun h24 => ?_) (fun h24 => ?_))
 rotate_left
 ·have h24 : ¬ (f.1.seq ≤ 1099511627776) := by simpa using h24
  refine xio ?_
  refine xmo ?_
  refine zrn ?_
  exact ⟨false, by show false = AdmM.may A f.1; rw [AdmM.may]; (simp [numM, h24]), sbZ, Imp.nil.ent⟩
 have h24 : f.1.seq ≤ 1099511627776 := by simpa using h24
 refine xeh ?_
 refine VA.go (VA.split 29 Z Z (fun h29 => ?_) (fun h29 => ?_))
 rotate_left
 ·have h29 : ¬ (1 ≤ f.1.try_) := by simpa using h29
  refine xmo ?_
  refine zrn ?_
  exact ⟨false, by show false = AdmM.may A f.1; rw [AdmM.may]; (simp [numM, h29]), sbZ, Imp.nil.ent⟩
 have h29 : 1 ≤ f.1.try_ := by simpa using h29
 refine xeh ?_
 refine VA.go (VA.split 34 Z Z (fun h34 => ?_) (fun h34 => ?_))
 rotate_left
 ·have h34 : ¬ (f.1.try_ ≤ 1099511627776) := by simpa using h34
  refine zrn ?_
  exact ⟨false, by show false = AdmM.may A f.1; rw [AdmM.may]; (simp [numM, h34]), sbZ, Imp.nil.ent⟩
 have h34 : f.1.try_ ≤ 1099511627776 := by simpa using h34
 refine xik ?_
 refine VA.go (AR (fun Fr w hF hs hS => Ref16.has_spec Fr w f.1.cls (hs0.of hF hs)) Z Z yx ?_)
 refine VA.go (VA.split 43 Z Z (fun h43 => ?_) (fun h43 => ?_))
 rotate_left
 ·have h43 : ¬ (0 ≤ f.1.cls ∧ f.1.cls < (A.sch.cls.length : Int)) := by simpa using h43
  refine xir ?_
  refine zqm ?_
  exact ⟨false, by show false = AdmM.may A f.1; rw [AdmM.may]; (simp [numM, h43]); intros; exfalso; omega, sbZ, Imp.nil.ent⟩
 have h43 : 0 ≤ f.1.cls ∧ f.1.cls < (A.sch.cls.length : Int) := by simpa using h43
 refine xeh ?_
 refine VA.go (VA.split 48 Z Z (fun h48 => ?_) (fun h48 => ?_))
 rotate_left
 ·have h48 : ¬ (0 ≤ f.1.deadline) := by simpa using h48
  refine zqm ?_
  exact ⟨false, by show false = AdmM.may A f.1; rw [AdmM.may]; (simp [numM, h48]), sbZ, Imp.nil.ent⟩
 have h48 : 0 ≤ f.1.deadline := by simpa using h48
 refine xeh ?_
 refine VA.go (VA.split 53 Z Z (fun h53 => ?_) (fun h53 => ?_))
 rotate_left
 ·have h53 : ¬ (f.1.deadline ≤ 1099511627776) := by simpa using h53
  refine xil ?_
  refine zqf ?_
  exact ⟨false, by show false = AdmM.may A f.1; rw [AdmM.may]; (simp [numM, h53]), sbZ, Imp.nil.ent⟩
 have h53 : f.1.deadline ≤ 1099511627776 := by simpa using h53
 refine xeh ?_
 refine xit ?_
 refine VA.go (AR (fun Fr w hF hs hS => rcheck_spec Fr w f.1.op) Z Z yx ?_)
 refine VA.go (VA.split 59 Z Z (fun h59 => ?_) (fun h59 => ?_))
 rotate_left
 ·have h59 : ¬ (opCheck f.1.op = 0) := by simpa using h59
  refine zpr ?_
  exact ⟨false, by show false = AdmM.may A f.1; rw [AdmM.may]; (simp [numM, h59]), sbZ, Imp.nil.ent⟩
 have h59 : opCheck f.1.op = 0 := by simpa using h59
 refine xit ?_
 refine VA.go (AR (fun Fr w hF hs hS => rreads_spec Fr w f.1.op) Z Z yx ?_)
 refine yG (yN ?_)
 refine ⟨!readsM f.1.op, ?_, sbZ, Imp.nil.ent⟩
 rw [AdmM.may]
 simp [numM, h8, h14, h19, h24, h29, h34, h43, h48, h53, h59]
end
end Nd
namespace Nd
open Go Vg T Api Kv Ch Lg Rd Win Adm Sched Conf Rep Ref16 Rk
attribute [local irreducible] VO VC VA
section
variable {p : Nat} {C : ConfM} {ca : Option Addr} {cc : Nat} {A : AdmM} {sp : Nat}
theorem rreason_spec (ra : RaOk C A) (f : FM) (now : Int) : Tri Tryz.prog 216 [.pointer (some ⟨p, 0, none⟩), .agg (fmc f).toArray, .int .i64 now] Fr w [radH p C ca cc A]
  (fun v L => v = .int .i64 (raW A f.1 now).1 ∧ L = [radH p C ca cc (raW A f.1 now).2]) := by
 refine TF 43 Tryz.func216 Z ym tabOk Z Z ?_
 refine CS (CG (VG (VB (vs := fmc f) Z fun b => VG (VN ?_))))
 refine VC.opn 1 Z (HOpn.rad p C ca cc A) ?_
 rintro sp -
 show VC _ _ _ [pt p (radCs C ca cc A sp) radT, rfH sp ca A.sch, pt b (fmc f) frT] _
 have out : ∀ {X : Cx}, Ent X [pt p (radCs C ca cc A sp) radT, rfH sp ca A.sch, pt b (fmc f) frT] [radH p C ca cc A] := (Imp.rad sp (pkZ [0, 0])).ent
 refine xhm ?_
 refine VG (VO.ld 2 Z Z Z Z ?_)
 refine VG (VV (fun Fr w hF hs hS => rwaits_spec Fr w ⟨hS.blk 0 Z, hS.at_ 1 Z⟩ f.1.client) Z ?_)
 refine xgc ?_
 refine VG (VV (fun Fr w hF hs hS => rbarred_spec Fr w ra.cl ra.marks ra.c6 (hS.blk 0 Z) f.1.client f.1.seq f.1.try_) Z ?_)
 refine xgc ?_
 refine CC Z (fun h1 => ?_) (fun h1 => CK ?_)
 ·have e : raW A f.1 now = (7, A) := by rw [raW, if_pos h1]
  exact zqv
 have h1' : ¬ A.barred f.1.client f.1.seq f.1.try_ = true := by rw [h1]; simp
 refine CS ?_
 refine CS ?_
 refine VC.meetS (σ := Bool) (fun d => [(0, pV p), (2, .int .i64 now), (4, pV b), (8, .bool (rwaits A.sch f.1.client).2), (30, .bool d)]) (fun _ => [pt p (radCs C ca cc A sp) radT, rfH sp ca A.sch, pt b (fmc f) frT]) (fun d => d = true ↔ ((rwaits A.sch f.1.client).2 = true ∧ (rwaits A.sch f.1.client).1 = f.1.seq)) ?_ ?_
 ·refine CG ?_
  refine xgd ?_
  refine VG (VO.split 25 Z Z (fun h2 => ?_) (fun h2 => ?_))
  ·refine xgd ?_
   exact ⟨_, by rw [h2]; simp, SC Z (SC Z (SC Z (SC Z (SC Z (SN _))))), ER⟩
  ·refine xgd ?_
   exact ⟨false, by rw [h2]; simp, sbZ, ER⟩
 rintro d hd
 refine CC Z (fun h2 => ?_) (fun h2 => CK ?_)
 ·have e : raW A f.1 now = (6, A) := by rw [raW, if_neg h1', if_pos (hd.1 h2)]
  exact zqv
 have h2' : ¬ ((rwaits A.sch f.1.client).2 = true ∧ (rwaits A.sch f.1.client).1 = f.1.seq) := fun h => by rw [hd.2 h] at h2; cases h2
 refine xgc ?_
 refine CC Z (fun h3 => ?_) (fun h3 => CK ?_)
 ·have e : raW A f.1 now = (1, A) := by rw [raW, if_neg h1', if_neg h2', if_pos h3]
  exact zqv
 have h3' : ¬ (rwaits A.sch f.1.client).2 = true := by rw [h3]; simp
 refine xgc ?_
 refine CP (p := f.1.deadline < now) Z (fun h4 => ?_) (fun h4 => CK ?_)
 ·have e : raW A f.1 now = (2, A) := by rw [raW, if_neg h1', if_neg h2', if_neg h3', if_pos h4]
  exact zqv
 have e : raW A f.1 now = if (A.sch.pushM f.1).1 ≠ 0 then (1, A.withSch (A.sch.pushM f.1).2) else (0, A.withSch (A.sch.pushM f.1).2) := by rw [raW, if_neg h1', if_neg h2', if_neg h3', if_neg h4]
 refine CS (CS (CD (ts 0 5 (.only 5 (.take 6 .nil))) ym yq ?_))
 refine xha ?_
 refine VA.go (VA.ldA 2 (fmc f) Z Z Z Z Z ?_)
 refine VA.go (AQ 1 (ψ := fun v H => v = .int .i64 (A.sch.pushM f.1).1 ∧ H = rfH sp ca (A.sch.pushM f.1).2) Z (fun Fr w hF hs _ => Ref16.push_spec Fr w sp ca A.sch f) Z Z yz (fun v H h => by rw [h.2]; exact yr) ?_)
 rintro _ _ ⟨rfl, rfl⟩
 refine xfc ?_
 have out2 : ∀ {X : Cx}, Ent X [pt p (radCs C ca cc A sp) radT, rfH sp ca (A.sch.pushM f.1).2, pt b (fmc f) frT] [radH p C ca cc (A.withSch (A.sch.pushM f.1).2)] := Imp.ent (Imp.rad (A := A.withSch (A.sch.pushM f.1).2) sp (pkZ [0, 0]))
 refine VC.condNE (i := (A.sch.pushM f.1).1) (j := 0) Z (fun h5 => ?_) (fun h5 => CK ?_)
 ·rw [if_pos h5] at e
  refine xdy ?_
  exact CR (Ret.int 6 Z Z yas out2 ⟨rfl, by rw [e]⟩)
 ·rw [if_neg (fun h => h h5)] at e
  refine xdy ?_
  exact CR (Ret.int 6 Z Z yas out2 ⟨rfl, by rw [e]⟩)
theorem raW_same (A : AdmM) (f : FrameM) (now : Int) : (raW A f now).2.clients = A.clients ∧ (raW A f now).2.marks = A.marks := by
 unfold raW
 repeat' split
 all_goals exact ⟨rfl, rfl⟩
theorem roffer_spec (ra : RaOk C A) (f : FM) (now : Int) : Tri Tryz.prog 181 [.pointer (some ⟨p, 0, none⟩), .agg (fmc f).toArray, .int .i64 now] Fr w [radH p C ca cc A]
  (fun v L => v = .int .i64 (raOffer A f.1 now).1 ∧ L = [radH p C ca cc (raOffer A f.1 now).2]) := by
 refine TF 31 Tryz.func181 Z ym tabOk Z Z ?_
 refine CS (CG (VG (VB (vs := fmc f) Z fun b => VG (VN ?_))))
 refine CS (CS (CG ?_))
 refine xiw ?_
 refine VG (VV (fun Fr w hF hs hS => by
  obtain ⟨sp, h⟩ := RadIn.of (hS.at_ 1 rfl)
  exact rmay_spec Fr w ra h f) Z ?_)
 refine xgk ?_
 refine CC Z (fun h1 => ?_) (fun h1 => CK ?_)
 ·have h1 : ¬ A.may f.1 = true := by simpa using h1
  have e : raOffer A f.1 now = (10, A) := by rw [raOffer, if_neg h1]
  refine xdy ?_
  exact CR (Ret.int 6 Z Z yas (IP 1 Z Imp.nil).ent ⟨rfl, by rw [e]⟩)
 have h1 : A.may f.1 = true := by simpa using h1
 refine xhm ?_
 refine xiw ?_
 refine VG (VQ 1 (ψ := fun v H => v = .int .i64 (raW A f.1 now).1 ∧ H = radH p C ca cc (raW A f.1 now).2) Z (fun Fr w hF hs _ => rreason_spec Fr w ra f now) Z yz ?_)
 rintro _ _ ⟨rfl, rfl⟩
 refine xgk ?_
 obtain ⟨k1, k2⟩ := raW_same A f.1 now
 have ra2 : RaOk C (raW A f.1 now).2 → True := fun _ => trivial
 have fin : ¬ ((raW A f.1 now).1 ≠ 0 ∧ (raW A f.1 now).1 ≠ 6) → raOffer A f.1 now = raW A f.1 now := fun h => by rw [raOffer, if_pos h1, if_neg h]
 refine CS ?_
 refine VC.meetS (σ := Unit) (fun _ => [(7, .int .i64 (raW A f.1 now).1)]) (fun _ => [radH p C ca cc (raOffer A f.1 now).2]) (fun _ => True) ?_ ?_
 rotate_left
 ·rintro _ -
  refine xdy ?_
  refine CR (Ret.int 6 Z Z ?_ ER ⟨rfl, Z⟩)
  rw [raOffer, if_pos h1]
  split <;> rfl
 refine zro ?_
 by_cases h2 : (raW A f.1 now).1 = 0
 ·refine VG (VY 18 false Z ycg ?_)
  refine zpn ?_
  exact ⟨(), trivial, sbZ, by rw [fin (fun h => h.1 h2)]; exact (IP 1 Z Imp.nil).ent⟩
 refine VG (VY 18 true Z (by rw [bne_iff_ne]; exact h2) ?_)
 refine xel ?_
 refine VC.condNE (i := (raW A f.1 now).1) (j := 6) Z (fun h3 => ?_) (fun h3 => CK ?_)
 rotate_left
 ·exact ⟨(), trivial, sbZ, by rw [fin (fun h => h.2 h3)]; exact (IP 1 Z Imp.nil).ent⟩
 have e : raOffer A f.1 now = ((raW A f.1 now).1, ((raW A f.1 now).2.barM f.1.client f.1.seq f.1.try_).2) := by rw [raOffer, if_pos h1, if_pos ⟨h2, h3⟩]
 refine VC.opn 1 Z (HOpn.rad p C ca cc (raW A f.1 now).2) ?_
 rintro sp -
 show VC _ _ _ [pt p (radCs C ca cc (raW A f.1 now).2 sp) radT, rfH sp ca (raW A f.1 now).2.sch, pt b (fmc f) frT] _
 refine xgd ?_
 refine VG (VQ 0 (ψ := fun v H => H = pt p (radCs C ca cc ((raW A f.1 now).2.barM f.1.client f.1.seq f.1.try_).2 sp) radT) Z (fun Fr w hF hs _ => rbar_spec Fr w (ra.cl.trans k1.symm) (by rw [k2]; exact ra.marks) (by rw [k1]; exact ra.c6) f.1.client f.1.seq f.1.try_) Z ybi ?_)
 rintro _ _ rfl
 refine xgk ?_
 refine ⟨(), trivial, sbZ, ?_⟩
 rw [e]
 refine Imp.ent (Imp.rad (A := ((raW A f.1 now).2.barM f.1.client f.1.seq f.1.try_).2) sp (IP 0 Z (IP 0 ?_ Imp.nil)))
 rw [(barM_same _ _ _ _).2.2]; rfl
end
end Nd
namespace Nd
open Go Vg T Api Kv Ch Lg Rd Win Adm Sched Conf Rep Ref16 Rk
attribute [local irreducible] VO VC VA
section
variable {p : Nat} {C : ConfM} {ca : Option Addr} {cc : Nat} {A : AdmM} {sp : Nat}
theorem rflush_spec (ra : RaOk C A) : Tri Tryz.prog 182 [.pointer (some ⟨p, 0, none⟩)] Fr w [radH p C ca cc A]
  (fun v L => ∃ r : RL FM, r.Ok fmc 29 ∧ r.xs.map Prod.fst = A.sch.goneM 1099511627777 ∧ r.xs.length ≤ 64 ∧ v = .slice r.addr r.xs.length r.cap ∧ L = [r.h frT, radH p C ca cc (raExp A 1099511627777)]) := by
 refine TF 34 Tryz.func182 Z ym tabOk Z Z ?_
 refine xep ?_
 refine VC.opn 0 Z (HOpn.rad p C ca cc A) ?_
 rintro sp -
 show VC _ _ _ [pt p (radCs C ca cc A sp) radT, rfH sp ca A.sch] _
 refine VC.opn 1 Z (HOpn.rf sp ca A.sch) ?_
 rintro s hs
 have h64 : (A.sch.goneM 1099511627777).length ≤ 64 := by have := hs.wf.fewG A.sch.cls.length 1099511627777; rw [List.take_length] at this; exact this
 refine CN (L' := [rfH sp ca A.sch, pt p (radCs C ca cc A sp) radT]) ?_ ?_
 ·exact xmr
 refine xhm ?_
 refine xhk ?_
 refine VG (VK (Lc := [rfH sp ca A.sch]) (fun Fr w hF hs hS => Ref16.expire_spec Fr w sp ca A.sch 1099511627777) Z Z ?_)
 rintro _ _ ⟨a, c, gs, hgs, rfl, rfl⟩
 refine xgk ?_
 refine VC.opn 1 Z (HOpn.rl frT a c gs fmc_len) ?_
 rintro r ⟨hok, hv, hrx⟩
 rw [← hv]
 rw [← hrx] at hgs
 obtain ⟨A0, hA0⟩ : ∃ A0, A0 = A.withSch (A.sch.expM 1099511627777) := ⟨_, rfl⟩
 obtain ⟨gs0, hg0⟩ : ∃ gs0, gs0 = A.sch.goneM 1099511627777 := ⟨_, rfl⟩
 rw [← hg0] at hgs h64
 have hlen : r.xs.length = gs0.length := by rw [← hgs, List.length_map]
 have ra : C.clients = A0.clients ∧ A0.marks.length = 6 ∧ A0.clients ≤ 6 := by subst hA0; exact ⟨ra.cl, ra.marks, ra.c6⟩
 rw [show radCs C ca cc A sp = radCs C ca cc (barAll A0 []) sp from by rw [hA0]; rfl, show A.sch.expM 1099511627777 = A0.sch from by rw [hA0]; rfl]
 refine CN (L' := [pt p (radCs C ca cc (barAll A0 []) sp) radT, rfH sp ca A0.sch, r.h frT]) (Imp.ent (pkZ [2, 1, 0])) ?_
 refine CS ?_
 refine VC.meetS (σ := Unit) (fun _ => [(0, pV p), (3, .slice r.addr r.xs.length r.cap)]) (fun _ => [pt p (radCs C ca cc (barAll A0 gs0) sp) radT, rfH sp ca A0.sch, r.h frT] ++ []) (fun _ => True) ?_ ?_
 ·refine xep ?_
  show VC _ _ _ _ _
  refine xjt ?_
  refine VC.loop (σ := Nat) (fun i => [(0, pV p), (3, .slice r.addr r.xs.length r.cap), (4, .int .i64 i)]) (fun i => [pt p (radCs C ca cc (barAll A0 (gs0.take i)) sp) radT, rfH sp ca A0.sch, r.h frT] ++ []) (fun i => i ≤ r.xs.length) (fun i => r.xs.length - i) 0
   (Nat.zero_le _) sbZ ER ?_
  rintro i hi
  refine xel ?_
  refine CP (p := (i : Int) < (r.xs.length : Int)) Z (fun h1 => CK ?_) (fun h1 => CX ?_)
  rotate_left
  ·have hi2 : i = gs0.length := by omega
   subst hi2
   rw [List.take_length]
   exact xhh
  have h1 : i < r.xs.length := by omega
  obtain ⟨y, hy⟩ : ∃ y, r.xs[i]? = some y := ⟨_, GE h1⟩
  have hyl : gs0[i]? = some y.1 := by rw [← hgs, List.getElem?_map, hy]; rfl
  have htk : gs0.take (i + 1) = gs0.take i ++ [y.1] := by rw [List.take_add_one, hyl]; rfl
  obtain ⟨tb, tof, htb, hta, hrd⟩ := RL.Ok.ld (t := frT) hok hy (fmc_len y)
  obtain ⟨k1, k2, k3⟩ := barAll_same (gs0.take i) A0
  rw [hta]
  refine CS (VC.block (CD (ts 0 16 (.only 16 .nil)) ym yq ?_))
  refine zrp ?_
  refine VA.go (VA.load Z Z Z ((hrd 2 Z).2 _ 2 _ Z Z) ?_)
  refine zrp ?_
  refine VA.go (VA.load Z Z Z ((hrd 2 Z).2 _ 3 _ Z Z) ?_)
  refine zrp ?_
  refine VA.go (VA.load Z Z Z ((hrd 2 Z).2 _ 4 _ Z Z) ?_)
  refine xmu ?_
  rintro _ _ rfl
  refine xfc ?_
  rw [← hta]
  show VC _ _ _ _ _
  refine xel ?_
  refine zrk ?_
  exact xmv
 rintro _ -
 refine xdy ?_
 have hfin : raExp A 1099511627777 = barAll A0 gs0 := by rw [raExp, hA0, hg0]
 refine CR (Ret.tmp 2 Z Z (Imp.ent (IP 2 Z (Imp.rad (A := raExp A 1099511627777) sp (IP 0 (by rw [hfin]; rfl) (IP 0 (by rw [hfin, (barAll_same gs0 A0).2.2]; rfl) Imp.nil))))) ⟨r, hok, by rw [hgs, hg0], by omega, Z, Z⟩)
theorem rnext_spec (ra : RaOk C A) (hq : IntsIn Fr w ca C.qs) (hB : few A.sch 1000000000) (now : Int) : Tri Tryz.prog 92 [.pointer (some ⟨p, 0, none⟩), .int .i64 now] Fr w [radH p C ca cc A]
  (fun v L => ∃ (r : RL FM) (m : MemG), r.Ok fmc 29 ∧ r.xs.map Prod.fst = A.sch.goneM now ∧ r.xs.length ≤ 64 ∧ v = .tuple #[.agg (fmc ((popV (raExp A now).sch).1, m)).toArray, .bool (popV (raExp A now).sch).2.1, .slice r.addr r.xs.length r.cap] ∧ L = [r.h frT, radH p C ca cc (raNext A now)]) := by
 refine TF 51 Tryz.func92 Z ym tabOk Z Z ?_
 refine CS (CG (VG (VO.alloc Z fun d => VG (VN ?_))))
 refine VC.opn 1 Z (HOpn.rad p C ca cc A) ?_
 rintro sp -
 show VC _ _ _ [pt p (radCs C ca cc A sp) radT, rfH sp ca A.sch, pt d (fmc fmz) frT] _
 refine VC.opn 1 Z (HOpn.rf sp ca A.sch) ?_
 rintro s hs
 have h64 : (A.sch.goneM now).length ≤ 64 := by have := hs.wf.fewG A.sch.cls.length now; rw [List.take_length] at this; exact this
 refine CN (L' := [rfH sp ca A.sch, pt p (radCs C ca cc A sp) radT, pt d (fmc fmz) frT]) ?_ ?_
 ·exact xmr
 refine xhm ?_
 refine xhk ?_
 refine VG (VK (Lc := [rfH sp ca A.sch]) (fun Fr w hF hs hS => Ref16.expire_spec Fr w sp ca A.sch now) Z Z ?_)
 rintro _ _ ⟨a, c, gs, hgs, rfl, rfl⟩
 refine xgk ?_
 refine VC.opn 1 Z (HOpn.rl frT a c gs fmc_len) ?_
 rintro r ⟨hok, hv, hrx⟩
 rw [← hv]
 rw [← hrx] at hgs
 obtain ⟨A0, hA0⟩ : ∃ A0, A0 = A.withSch (A.sch.expM now) := ⟨_, rfl⟩
 obtain ⟨gs0, hg0⟩ : ∃ gs0, gs0 = A.sch.goneM now := ⟨_, rfl⟩
 rw [← hg0] at hgs h64
 have hlen : r.xs.length = gs0.length := by rw [← hgs, List.length_map]
 have hfin : raExp A now = barAll A0 gs0 := by rw [raExp, hA0, hg0]
 have hsch : (raExp A now).sch = A0.sch := by rw [hfin, (barAll_same gs0 A0).2.2]
 have hqs : A0.sch.cls.map ClsM.quantum = C.qs := by
  rw [hA0, ← ra.qs]
  show (A.sch.cls.map (ClsM.expC now)).map ClsM.quantum = _
  rw [List.map_map]; rfl
 have hB0 : few A0.sch 1000000000 := by
  subst hA0
  intro x hx
  obtain ⟨y, hy, rfl⟩ := List.mem_map.1 hx
  exact hB y hy
 have ra : C.clients = A0.clients ∧ A0.marks.length = 6 ∧ A0.clients ≤ 6 := by subst hA0; exact ⟨ra.cl, ra.marks, ra.c6⟩
 rw [show radCs C ca cc A sp = radCs C ca cc (barAll A0 []) sp from by rw [hA0]; rfl, show A.sch.expM now = A0.sch from by rw [hA0]; rfl]
 refine CN (L' := [pt p (radCs C ca cc (barAll A0 []) sp) radT, rfH sp ca A0.sch, r.h frT, pt d (fmc fmz) frT]) (Imp.ent (pkZ [2, 1, 0, 0])) ?_
 refine CS ?_
 refine VC.meetS (σ := Unit) (fun _ => [(0, pV p), (7, .slice r.addr r.xs.length r.cap), (4, pV d)]) (fun _ => [pt p (radCs C ca cc (barAll A0 gs0) sp) radT, rfH sp ca A0.sch, r.h frT] ++ [pt d (fmc fmz) frT]) (fun _ => True) ?_ ?_
 ·refine xep ?_
  show VC _ _ _ _ _
  refine xjt ?_
  refine VC.loop (σ := Nat) (fun i => [(0, pV p), (7, .slice r.addr r.xs.length r.cap), (8, .int .i64 i), (4, pV d)]) (fun i => [pt p (radCs C ca cc (barAll A0 (gs0.take i)) sp) radT, rfH sp ca A0.sch, r.h frT] ++ [pt d (fmc fmz) frT]) (fun i => i ≤ r.xs.length) (fun i => r.xs.length - i) 0
   (Nat.zero_le _) sbZ ER ?_
  rintro i hi
  refine xel ?_
  refine CP (p := (i : Int) < (r.xs.length : Int)) Z (fun h1 => CK ?_) (fun h1 => CX ?_)
  rotate_left
  ·have hi2 : i = gs0.length := by omega
   subst hi2
   rw [List.take_length]
   exact xhh
  have h1 : i < r.xs.length := by omega
  obtain ⟨y, hy⟩ : ∃ y, r.xs[i]? = some y := ⟨_, GE h1⟩
  have hyl : gs0[i]? = some y.1 := by rw [← hgs, List.getElem?_map, hy]; rfl
  have htk : gs0.take (i + 1) = gs0.take i ++ [y.1] := by rw [List.take_add_one, hyl]; rfl
  obtain ⟨tb, tof, htb, hta, hrd⟩ := RL.Ok.ld (t := frT) hok hy (fmc_len y)
  obtain ⟨k1, k2, k3⟩ := barAll_same (gs0.take i) A0
  rw [hta]
  refine CS (VC.block (CD (ts 0 16 (.only 16 .nil)) ym yq ?_))
  refine zrp ?_
  refine VA.go (VA.load Z Z Z ((hrd 2 Z).2 _ 2 _ Z Z) ?_)
  refine zrp ?_
  refine VA.go (VA.load Z Z Z ((hrd 2 Z).2 _ 3 _ Z Z) ?_)
  refine zrp ?_
  refine VA.go (VA.load Z Z Z ((hrd 2 Z).2 _ 4 _ Z Z) ?_)
  refine xmu ?_
  rintro _ _ rfl
  refine xfc ?_
  rw [← hta]
  show VC _ _ _ _ _
  refine xel ?_
  refine zrk ?_
  exact xmv
 rintro _ -
 refine xhm ?_
 refine xlc ?_
 refine VG (VQ 1 (ψ := fun v H => (∃ m, v = .tuple #[.agg (fmc ((popV A0.sch).1, m)).toArray, .bool (popV A0.sch).2.1]) ∧ H = rfH sp ca (popV A0.sch).2.2) Z (fun Fr w hF hs _ => Ref16.pop_spec Fr w sp ca A0.sch C.qs 1000000000 (ints_of hq hF hs) hqs hB0 yy) Z (fun v L h => by
  unfold popRf at h
  unfold popV
  cases hp : A0.sch.popM with
  | none => rw [hp] at h; exact ⟨_, h.2, ⟨(none, 0, 0), h.1⟩, rfl⟩
  | some x => rw [hp] at h; exact ⟨_, h.2, h.1, rfl⟩) ?_)
 rintro _ _ ⟨⟨m, rfl⟩, rfl⟩
 refine VG (VO.alloc Z fun b1 => VG (VT (vs := fmc ((popV A0.sch).1, m)) (cs' := fmc ((popV A0.sch).1, m)) 0 Z Z Z Z (NR _) Z Z Z (VG (VN ?_))))
 refine xhm ?_
 refine VG (VL 0 (fmc ((popV A0.sch).1, m)) Z Z Z Z ?_)
 refine VG (VT (vs := fmc ((popV A0.sch).1, m)) (cs' := fmc ((popV A0.sch).1, m)) 4 Z Z Z Z (NR _) Z Z Z (VG (VN ?_)))
 refine CR (Ret.cell3 4 5 6 Z Z Z (RdL.many (ds := fmc ((popV A0.sch).1, m)) 4 Z Z) Z Z (Imp.ent (IP 3 Z (Imp.rad (A := raNext A now) sp (IP 1 ?_ (IP 1 ?_ Imp.nil))))) ⟨r, m, hok, by rw [hgs, hg0], by omega, by rw [hsch], Z⟩)
 ·rw [show radCs C ca cc (raNext A now) sp = radCs C ca cc (raExp A now) sp from rfl, hfin]; rfl
 ·show _ = some (rfH sp ca (popV (raExp A now).sch).2.2)
  rw [hsch]; rfl
end
end Nd
namespace Nd
open Go Vg T Api Kv Ch Lg Rd Win Adm Sched Conf Rep Ref16 Rk
attribute [local irreducible] VO VC VA
abbrev rsnT : TypeId := 216
structure NdM where
 id : Int
 ch : ChM
 since : Int
 whole : Bool
 st : Int
 bs : Int
 log : List EntryM
 done : Int
 sent : Int
 limit : Int
 have_ : Int
 adm : AdmM
 rds : RdsM
 linked : Bool
 out : List SndM
structure NmS where
 lp : Nat
 ap : Nat
 rp : Nat
 oa : Option Addr
 oc : Nat
abbrev MemP := Option Addr × Nat
def nmCs (C : ConfM) (ca : Option Addr) (cc : Nat) (m : MemP) (n : NdM) (y : NmS) : List Value := C.cells ca cc ++ (.int .i64 n.id :: (n.ch.cells m.1 m.2 ++ [.int .i64 n.since, .bool n.whole, .int .i64 n.st, .int .i64 n.bs, .pointer (some ⟨y.lp, 0, none⟩), .int .i64 n.done, .int .i64 n.sent, .int .i64 n.limit, .int .i64 n.have_, .pointer (some ⟨y.ap, 0, none⟩), .pointer (some ⟨y.rp, 0, none⟩), .bool n.linked, .slice y.oa n.out.length y.oc]))
def nmL (p : Nat) (C : ConfM) (ca : Option Addr) (cc : Nat) (m : MemP) (n : NdM) (y : NmS) : List HP := [pt p (nmCs C ca cc m n y) ndT, rlogH y.lp n.log, radH y.ap C ca cc n.adm, rrdsH y.rp n.rds, slH rsnT 30 y.oa n.out.length y.oc (flat sndC n.out)]
def nmH (p : Nat) (C : ConfM) (ca : Option Addr) (cc : Nat) (m : MemP) (n : NdM) : HP := hex fun y => hsep (nmL p C ca cc m n y)
theorem HOpn.nm (p : Nat) (C : ConfM) (ca : Option Addr) (cc : Nat) (m : MemP) (n : NdM) : HOpn (ι := NmS) (nmH p C ca cc m n) (fun _ => True) (fun y => nmL p C ca cc m n y) := fun w ids ⟨x, h⟩ hn => ⟨x, trivial, ids, h, hn, fun _ h => h⟩
theorem Imp.nm {p : Nat} {C : ConfM} {ca : Option Addr} {cc : Nat} {m : MemP} {n : NdM} {L M : List HP} (y : NmS) (h : Imp L (nmL p C ca cc m n y ++ M)) : Imp L (nmH p C ca cc m n :: M) :=
 Imp.ex (f := fun y => hsep (nmL p C ca cc m n y)) y (Imp.sep (Ls := nmL p C ca cc m n y) h)
structure NmIn (Fr : Nat → Prop) (w : World) (p : Nat) (C : ConfM) (ca : Option Addr) (cc : Nat) (m : MemP) (n : NdM) (y : NmS) : Prop where
 blk : Blk Fr w p (nmCs C ca cc m n y)
 log : SatIn Fr [rlogH y.lp n.log] w
 adm : SatIn Fr [radH y.ap C ca cc n.adm] w
 rds : SatIn Fr [rrdsH y.rp n.rds] w
section
variable {p : Nat} {C : ConfM} {ca : Option Addr} {cc : Nat} {m : MemP} {n : NdM} {y : NmS}
theorem NmIn.of {Fr : Nat → Prop} {w : World} (h : SatIn Fr [nmH p C ca cc m n] w) : ∃ y, NmIn Fr w p C ca cc m n y := by
 obtain ⟨y, h⟩ := h.ex
 have h := h.sep
 exact ⟨y, h.blk 0 Z, h.at_ 1 Z, h.at_ 2 Z, h.at_ 3 Z⟩
theorem NmIn.of' {X : Cx} (h : NmIn X.Fr X.w0 p C ca cc m n y) {Fr' : Nat → Prop} {w : World} {L : List HP} (hF : ∀ b, X.Fr b → Fr' b) (hs : St X L w) : NmIn Fr' w p C ca cc m n y :=
 ⟨h.blk.of hF hs, h.log.of hF hs, h.adm.of hF hs, h.rds.of hF hs⟩
theorem NmIn.pcs {Fr : Nat → Prop} {w : World} {L : List HP} (h : SatIn Fr L w) (i : Nat) (h0 : L[i]? = some (pt p (nmCs C ca cc m n y) ndT)) (h1 : L[i + 1]? = some (rlogH y.lp n.log)) (h2 : L[i + 2]? = some (radH y.ap C ca cc n.adm)) (h3 : L[i + 3]? = some (rrdsH y.rp n.rds)) : NmIn Fr w p C ca cc m n y :=
 ⟨h.blk i h0, h.at_ _ h1, h.at_ _ h2, h.at_ _ h3⟩
def NdM.place (n : NdM) : Int := if 0 < n.since then placeOf n.ch.ms n.id else -1
def NdM.at_ (n : NdM) (i : Int) : Int := if n.place < 0 ∨ i < 0 ∨ (n.ch.ms.length : Int) ≤ i then -1 else ((n.ch.ms[i.toNat]?).getD (0, 0)).1
def NdM.tail (n : NdM) : Bool := decide (0 ≤ n.place) && (n.place == (n.ch.ms.length : Int) - 1)
def NdM.drains (n : NdM) : Bool := decide (0 ≤ n.place) && (n.ch.drain == n.id)
theorem place_bd (n : NdM) : -1 ≤ n.place ∧ n.place < n.ch.ms.length := by
 unfold NdM.place
 split
 ·rcases place_range n.ch.ms n.id with h | ⟨i, m, h, h1, _⟩ <;> omega
 ·omega
theorem nplace_spec (h : NmIn Fr w p C ca cc m n y) (hm : RwIn memC 2 Fr w m.1 n.ch.ms) (hl : n.ch.ms.length ≤ 1000) : Tri Tryz.prog 89 [.pointer (some ⟨p, 0, none⟩)] Fr w [] (fun v L => v = .int .i64 n.place ∧ L = []) := by
 have hb := h.blk
 refine TF 36 Tryz.func89 Z ym tabOk Z Z ?_
 refine xep ?_
 refine CS (CS (CG (VG (VN ?_))))
 show VC _ _ _ _ _
 refine xjt ?_
 refine VC.loop (σ := Nat) (fun i => [(0, pV p), (3, .int .i64 i)]) (fun _ => []) (fun i => i ≤ n.ch.ms.length ∧ ∀ j x, j < i → n.ch.ms[j]? = some x → x.1 ≠ n.id) (fun i => n.ch.ms.length - i) 0
  ⟨Nat.zero_le _, fun j x hj => by omega⟩ sbZ ER ?_
 rintro i ⟨hi, hno⟩
 refine xjg ?_
 by_cases h1 : i < n.ch.ms.length
 rotate_left
 ·refine VG (VY 12 false Z (DF yd) ?_)
  refine xlf ?_
  refine VC.condF Z (CX ?_)
  show VC _ _ _ _ _
  refine xdy ?_
  refine CR (Ret.int 2 Z Z ?_ ER ⟨rfl, Z⟩)
  rw [NdM.place, place_miss (fun j x hj hx => hno j x yd hx), ite_self]
 refine VG (VY 12 true Z (DT yd) ?_)
 refine xjg ?_
 refine CP (p := 0 < n.since) Z (fun h2 => CK ?_) (fun h2 => CX ?_)
 rotate_left
 ·show VC _ _ _ _ _
  refine xdy ?_
  refine CR (Ret.int 2 Z Z ?_ ER ⟨rfl, Z⟩)
  rw [NdM.place, if_neg h2]
 obtain ⟨k, hk⟩ : ∃ k, n.ch.ms[i]? = some k := ⟨_, GE h1⟩
 obtain ⟨mb, mo, hma, ra, rc⟩ := RwIn.rd (X := ⟨Tryz.prog, tab, tabOk, 36, Fr, w⟩) hm hk
 have hb2 := hb
 unfold nmCs at hb2
 rw [hma] at hb2
 refine CS (VC.block (CS (CD (ts 0 14 .nil) ym yq ?_)))
 refine xgr ?_
 refine xmt ?_
 refine xfm ?_
 refine xgs ?_
 refine xfm ?_
 show VC _ _ _ _ _
 refine CE (i := k.1) (j := n.id) Z (fun h3 => ?_) (fun h3 => CK ?_)
 ·refine xdy ?_
  refine CR (Ret.int 2 Z Z ?_ ER ⟨rfl, Z⟩)
  rw [NdM.place, if_pos h2, place_hit hk h3 hno]
 ·show VC _ _ _ _ _
  refine zpm ?_
  exact ⟨i + 1, ⟨h1, fun j x hj hx => by
   by_cases hji : j = i
   ·subst hji; rw [hk] at hx; cases hx; exact h3
   ·exact hno j x yd hx⟩, by dsimp only; omega, sbZ, ER⟩
theorem nat_spec (h : NmIn Fr w p C ca cc m n y) (hm : RwIn memC 2 Fr w m.1 n.ch.ms) (hl : n.ch.ms.length ≤ 1000) (i : Int) : Tri Tryz.prog 98 [.pointer (some ⟨p, 0, none⟩), .int .i64 i] Fr w [] (fun v L => v = .int .i64 (n.at_ i) ∧ L = []) := by
 have hb := h.blk
 refine TF 31 Tryz.func98 Z ym tabOk Z Z ?_
 refine xlf ?_
 refine VG (VV (fun Fr w hF hs _ => nplace_spec Fr w (h.of' hF hs) (RwIn.of hm hF hs) hl) Z ?_)
 refine xlf ?_
 by_cases h1 : n.place < 0
 ·refine VG (VY 8 true Z (DT h1) ?_)
  refine xlf ?_
  refine VG (VY 12 true Z Z ?_)
  refine xlf ?_
  refine zpi ?_
  exact CR (Ret.int 4 Z Z (by rw [NdM.at_, if_pos (.inl h1)]) ER ⟨rfl, Z⟩)
 refine VG (VY 8 false Z (DF h1) ?_)
 refine xlf ?_
 by_cases h2 : i < 0
 ·refine VG (VY 12 true Z (DT h2) ?_)
  refine xlf ?_
  refine zpi ?_
  exact CR (Ret.int 4 Z Z (by rw [NdM.at_, if_pos (.inr (.inl h2))]) ER ⟨rfl, Z⟩)
 refine VG (VY 12 false Z (DF h2) ?_)
 refine xjg ?_
 refine CP (p := (n.ch.ms.length : Int) ≤ i) Z (fun h3 => ?_) (fun h3 => CK ?_)
 ·refine xdy ?_
  exact CR (Ret.int 4 Z Z (by rw [NdM.at_, if_pos (.inr (.inr h3))]) ER ⟨rfl, Z⟩)
 have hk1 : i.toNat < n.ch.ms.length := by omega
 obtain ⟨k, hk⟩ : ∃ k, n.ch.ms[i.toNat]? = some k := ⟨_, GE hk1⟩
 obtain ⟨mb, mo, hma, ra, rc⟩ := RwIn.rd (X := ⟨Tryz.prog, tab, tabOk, 31, Fr, w⟩) hm hk
 have hb2 := hb
 unfold nmCs at hb2
 rw [hma] at hb2
 (repeat (first|refine zS ?_|refine zR ?_|refine zB ?_|refine zL ?_|refine zC ?_|refine zG (zN ?_)|refine zG (zE rfl rfl (RdL.blk hb2 rfl) ?_)|refine zG (zU rfl rfl rfl ?_)))
 refine VG (VI (light_idx i.toNat Z Z Z Z Z yd hk1) ?_)
 refine xlf ?_
 refine xgg ?_
 refine xlf ?_
 exact CR (Ret.int 4 Z Z (by rw [NdM.at_, if_neg yd, hk]; rfl) ER ⟨rfl, Z⟩)
end
end Nd
namespace Nd
open Go Vg T Api Kv Ch Lg Rd Win Adm Sched Conf Rep Ref16 Rk
attribute [local irreducible] VO VC VA
section
variable {p : Nat} {C : ConfM} {ca : Option Addr} {cc : Nat} {m : MemP} {n : NdM} {y : NmS}
theorem RdL.nm {X : Cx} {L : List HP} {ti : TI} {off : Nat} {v : Value} (i : Nat) (hL : L[i]? = some (nmH p C ca cc m n)) (hv : ∀ y, (nmCs C ca cc m n y)[off]? = some v) (ha : ti.und.agg = false := by rfl) : RdL X L ti p off v := fun w hw => by
 obtain ⟨y, -, h⟩ := (HOpn.nm p C ca cc m n).st i hL w hw
 exact RdL.one 0 Z (hv y) ha w h
theorem nlast_spec (h : NmIn Fr w p C ca cc m n y) : Tri Tryz.prog 91 [.pointer (some ⟨p, 0, none⟩)] Fr w [] (fun v L => v = .int .i64 n.log.length ∧ L = []) := by
 have hb := h.blk
 refine TF 8 Tryz.func91 Z ym tabOk Z Z ?_
 refine xfh ?_
 refine VG (VV (fun Fr w hF hs _ => rllen_spec Fr w (h.log.of hF hs)) Z ?_)
 refine xdy ?_
 exact xeu
theorem ntail_spec (h : NmIn Fr w p C ca cc m n y) (hm : RwIn memC 2 Fr w m.1 n.ch.ms) (hl : n.ch.ms.length ≤ 1000) : Tri Tryz.prog 172 [.pointer (some ⟨p, 0, none⟩)] Fr w [] (fun v L => v = .bool n.tail ∧ L = []) := by
 have hb := h.blk
 refine TF 18 Tryz.func172 Z ym tabOk Z Z ?_
 refine xep ?_
 refine CS (CD (.take 0 (.only 1 (ts 2 3 (ts 6 6 (.take 12 (.only 5 (ts 13 3 .nil))))))) ym yq ?_)
 refine xmw ?_
 by_cases h1 : 0 ≤ n.place
 rotate_left
 ·refine VA.go (AY 6 false Z (DF h1) ?_)
  refine xil ?_
  refine xmx ?_
  exact CR (Ret.bool 2 Z Z (by rw [NdM.tail, DF h1]; rfl) ER ⟨rfl, Z⟩)
 refine VA.go (AY 6 true Z (DT h1) ?_)
 refine xfm ?_
 refine xgl ?_
 refine VA.go (AR (fun Fr w hF hs _ => nplace_spec Fr w (h.of' hF hs) (RwIn.of hm hF hs) hl) Z Z yw ?_)
 refine xmx ?_
 exact CR (Ret.bool 2 Z Z (by rw [NdM.tail, DT h1]; rfl) ER ⟨rfl, Z⟩)
theorem ndrains_spec (h : NmIn Fr w p C ca cc m n y) (hm : RwIn memC 2 Fr w m.1 n.ch.ms) (hl : n.ch.ms.length ≤ 1000) : Tri Tryz.prog 90 [.pointer (some ⟨p, 0, none⟩)] Fr w [] (fun v L => v = .bool n.drains ∧ L = []) := by
 have hb := h.blk
 refine TF 18 Tryz.func90 Z ym tabOk Z Z ?_
 refine xep ?_
 refine CS (CD (.take 0 (.only 1 (ts 2 14 .nil))) ym yq ?_)
 refine xmw ?_
 by_cases h1 : 0 ≤ n.place
 rotate_left
 ·refine VA.go (AY 6 false Z (DF h1) ?_)
  refine xmx ?_
  exact CR (Ret.bool 2 Z Z (by rw [NdM.drains, DF h1]; rfl) ER ⟨rfl, Z⟩)
 refine VA.go (AY 6 true Z (DT h1) ?_)
 refine xfm ?_
 exact CR (Ret.bool 2 Z Z (by rw [NdM.drains, DT h1]; rfl) ER ⟨rfl, Z⟩)
def NdM.send (n : NdM) (to : Int) (f : FrameM) : NdM := { n with out := n.out ++ [(to, f)] }
theorem nsend_spec (ho : n.out.length ≤ 10000000) (to : Int) (f : FrameM) : Tri Tryz.prog 97 [.pointer (some ⟨p, 0, none⟩), .int .i64 to, .agg (fgC f mem0).toArray] Fr w [nmH p C ca cc m n]
  (fun v L => v = .tuple #[] ∧ L = [nmH p C ca cc m (n.send to f)]) := by
 refine TF 18 Tryz.func97 Z ym tabOk Z Z ?_
 refine CS (CG (VG (VB (vs := fgC f mem0) Z fun fb => VG (VN ?_))))
 refine xmy ?_
 rintro y -
 show VC _ _ _ [pt p (nmCs C ca cc m n y) ndT, rlogH y.lp n.log, radH y.ap C ca cc n.adm, rrdsH y.rp n.rds, slH rsnT 30 y.oa n.out.length y.oc (flat sndC n.out), pt fb (fgC f mem0) frT] _
 refine xiy ?_
 refine xeh ?_
 refine VA.go (VA.ldA 5 (fgC f mem0) Z Z Z Z Z ?_)
 refine xmz ?_
 refine VA.go (AO (OpT.buildSlice (n := 1) (pv := [(0, .agg (sndC (to, f)).toArray)]) (cells := sndC (to, f)) Z Z Z Z yy (fill_one Z Z Z)) Z ?_ ?_)
 ·rintro v L' ⟨nb, rfl, rfl⟩
  exact yr
 rintro v L' ⟨nb, rfl, rfl⟩
 refine VA.go (AO (OpT.append (m := 1) (news := sndC (to, f)) 5 Z Z Z Z Z Z Z (RdRow.pt 0 Z Z Z) Z (small_bytes (k := 10000001) yd yy) yd) Z ?_ ?_)
 ·rintro v L' ⟨a2, c2, rfl, hc2, rfl⟩
  exact yr
 rintro v L' ⟨a2, c2, rfl, hc2, rfl⟩
 refine xjw ?_
 have hlen : (n.send to f).out.length = n.out.length + 1 := by show (n.out ++ [(to, f)]).length = _; simp
 refine VA.go (VA.st 2 (cs' := nmCs C ca cc m (n.send to f) ⟨y.lp, y.ap, y.rp, a2, c2⟩) Z Z Z Z Z ych (by unfold nmCs; rw [hlen]; rfl) Z yr (VA.go (AN ?_)))
 refine Ret.void Z (Imp.ent (Imp.nm (n := n.send to f) ⟨y.lp, y.ap, y.rp, a2, c2⟩ ?_)) ⟨rfl, Z⟩
 unfold nmL
 rw [hlen, show flat sndC (n.send to f).out = flat sndC n.out ++ sndC (to, f) from by show flat sndC (n.out ++ [(to, f)]) = _; simp [flat_append, flat_cons, flat_nil]]
 exact (pkZ [2, 2, 2, 2, 0])
def NdM.reply (n : NdM) (c s t : Int) (r : ResM) : NdM := n.send (32 + c) (replyF c s t r)
def NdM.refuse (n : NdM) (f : FrameM) (x : Int) : NdM := n.send (32 + f.client) (refuseF n.ch.epoch f x)
theorem nreply_spec (ho : n.out.length ≤ 10000000) (c s t : Int) (hc0 : -1000000 ≤ c) (hc1 : c ≤ 1000000) (r : ResM) : Tri Tryz.prog 120 [.pointer (some ⟨p, 0, none⟩), .int .i64 c, .int .i64 s, .int .i64 t, .agg (resC r).toArray] Fr w [nmH p C ca cc m n]
  (fun v L => v = .tuple #[] ∧ L = [nmH p C ca cc m (n.reply c s t r)]) := by
 refine TF 19 Tryz.func120 Z ym tabOk Z Z ?_
 refine CS (CG (VG (VB (vs := resC r) Z fun rb => VG (VN ?_))))
 refine CG ?_
 refine zpk ?_
 refine VG (VL 0 (resC r) Z Z Z Z ?_)
 refine xna ?_
 refine VG (VQ 1 (ψ := fun v H => H = nmH p C ca cc m (n.reply c s t r)) Z (fun Fr w hF hs _ => nsend_spec Fr w ho _ _) Z ybi ?_)
 rintro _ _ rfl
 refine xgk ?_
 exact xje
theorem nrefuse_spec (ho : n.out.length ≤ 10000000) (f : FM) (x : Int) (hc0 : -1000000 ≤ f.1.client) (hc1 : f.1.client ≤ 1000000) : Tri Tryz.prog 88 [.pointer (some ⟨p, 0, none⟩), .agg (fmc f).toArray, .int .i64 x] Fr w [nmH p C ca cc m n]
  (fun v L => v = .tuple #[] ∧ L = [nmH p C ca cc m (n.refuse f.1 x)]) := by
 refine TF 24 Tryz.func88 Z ym tabOk Z Z ?_
 refine CS (CG (VG (VB (vs := fmc f) Z fun fb => VG (VN ?_))))
 refine xmy ?_
 rintro y -
 show VC _ _ _ [pt p (nmCs C ca cc m n y) ndT, rlogH y.lp n.log, radH y.ap C ca cc n.adm, rrdsH y.rp n.rds, slH rsnT 30 y.oa n.out.length y.oc (flat sndC n.out), pt fb (fmc f) frT] _
 refine CD (ts 0 17 (.only 17 .nil)) ym yq ?_
 refine xfr ?_
 refine xeg ?_
 refine xfr ?_
 refine VA.go (AI Z (LB (pv := [(0, .int .i64 3), (1, .int .i64 n.ch.epoch), (2, .int .i64 f.1.client), (3, .int .i64 f.1.seq), (4, .int .i64 f.1.try_), (9, .int .i64 x)]) (fgC (refuseF n.ch.epoch f.1 x) mem0) Z Z Z ym Z) ?_)
 refine VA.ent (L' := [nmH p C ca cc m n, pt fb (fmc f) frT]) (Imp.nm y (IP 0 Z (IP 0 Z (IP 0 Z (IP 0 Z (IP 0 Z Imp.refl)))))).ent ?_
 refine VA.go (AQ 0 (ψ := fun v H => H = nmH p C ca cc m (n.refuse f.1 x)) Z (fun Fr w hF hs _ => nsend_spec Fr w ho _ _) Z Z ybi (fun v H h => by rw [h]; exact yci) ?_)
 rintro _ _ rfl
 refine xfc ?_
 exact xnb
structure NdOk (C : ConfM) (n : NdM) : Prop where
 ms : n.ch.ms.length ≤ 1000
 log : n.log.length ≤ 4096
 num : Num n.log
 logc : ∀ e ∈ n.log, 0 ≤ e.client ∧ e.client < 6
 ra : RaOk C n.adm
 calls : n.adm.Calls
 d0 : 0 ≤ n.done
 d1 : n.done ≤ n.log.length
 s0 : 0 ≤ n.sent
 s1 : n.sent ≤ n.log.length
 w0 : 1 ≤ C.window
 w1 : C.window ≤ 16
 rl : n.rds.l.length ≤ 16
 rc : n.rds.cap ≤ 16
 rn0 : 0 ≤ n.rds.last
 rn1 : n.rds.last ≤ 100000000
 rcl : ∀ x ∈ n.rds.l, 0 ≤ x.f.client ∧ x.f.client ≤ 1000
def NdM.ahead (n : NdM) : Int := n.at_ (n.place - 1)
def NdM.next (n : NdM) : Int := n.at_ (n.place + 1)
def NdM.grant (C : ConfM) (n : NdM) : Int := if n.drains then n.log.length else n.done + C.window
def NdM.greet (C : ConfM) (n : NdM) : NdM := if n.ahead < 0 then n else n.send n.ahead (ackF n.ch.epoch n.done (n.grant C) n.log.length)
def NdM.base (n : NdM) : NdM := if n.whole = true ∧ 0 ≤ n.place ∧ 0 ≤ n.next then n.send n.next (baseF n.ch.epoch n.st) else n
def NdM.alive (n : NdM) : NdM := n.send 16 (aliveF n.ch.epoch (if n.whole then 1 else 0))
def NdM.ackB (n : NdM) (i : Int) : Bool := decide (n.done < i) && decide (i ≤ n.log.length)
def NdM.ack (n : NdM) (i : Int) : NdM := if n.ackB i then { n with done := i } else n
theorem ngreet_spec (ok : NdOk C n) (hm : RwIn memC 2 Fr w m.1 n.ch.ms) (ho : n.out.length ≤ 10000000) : Tri Tryz.prog 105 [.pointer (some ⟨p, 0, none⟩)] Fr w [nmH p C ca cc m n]
  (fun v L => v = .tuple #[] ∧ L = [nmH p C ca cc m (n.greet C)]) := by
 have pb := place_bd n
 have h1 := ok.ms; have h2 := ok.d0; have h3 := ok.d1; have h4 := ok.log; have h5 := ok.w0; have h6 := ok.w1
 refine TF 41 Tryz.func105 Z ym tabOk Z Z ?_
 refine xnc ?_
 rintro y -
 show VC _ _ _ [pt p (nmCs C ca cc m n y) ndT, rlogH y.lp n.log, radH y.ap C ca cc n.adm, rrdsH y.rp n.rds, slH rsnT 30 y.oa n.out.length y.oc (flat sndC n.out)] _
 have back : ∀ {X : Cx}, Ent X [pt p (nmCs C ca cc m n y) ndT, rlogH y.lp n.log, radH y.ap C ca cc n.adm, rrdsH y.rp n.rds, slH rsnT 30 y.oa n.out.length y.oc (flat sndC n.out)] [nmH p C ca cc m n] := (Imp.nm y (pkZ [0, 0, 0, 0, 0])).ent
 refine xdy ?_
 refine VG (VV (fun Fr w hF hs hS => nplace_spec Fr w (NmIn.pcs hS 0 Z Z Z Z) (RwIn.of hm hF hs) ok.ms) Z ?_)
 refine xfj ?_
 refine VG (VV (fun Fr w hF hs hS => nat_spec Fr w (NmIn.pcs hS 0 Z Z Z Z) (RwIn.of hm hF hs) ok.ms (n.place - 1)) Z ?_)
 refine xdy ?_
 refine CP (p := n.at_ (n.place - 1) < 0) Z (fun h7 => ?_) (fun h7 => CK ?_)
 ·exact CR (Ret.void Z back ⟨rfl, by rw [NdM.greet, NdM.ahead, if_pos h7]⟩)
 have hg : n.greet C = n.send n.ahead (ackF n.ch.epoch n.done (n.grant C) n.log.length) := by rw [NdM.greet, NdM.ahead, if_neg h7]
 refine CS (CD (ts 0 11 .nil) ym yq ?_)
 refine xeh ?_
 refine xeg ?_
 refine xeh ?_
 refine CS ?_
 refine VC.meetS (σ := Unit) (fun _ => [(0, pV p), (2, .int .i64 (n.at_ (n.place - 1))), (3, .int .i64 (n.grant C))]) (fun _ => [pt p (nmCs C ca cc m n y) ndT, rlogH y.lp n.log, radH y.ap C ca cc n.adm, rrdsH y.rp n.rds, slH rsnT 30 y.oa n.out.length y.oc (flat sndC n.out)]) (fun _ => True) ?_ ?_
 ·refine xdy ?_
  refine xnd ?_
  refine xdy ?_
  refine CC Z (fun h8 => ?_) (fun h8 => CK ?_)
  ·refine xdy ?_
   refine xne ?_
   refine xdy ?_
   exact ⟨(), trivial, SC Z (SC Z (SC (by rw [NdM.grant, if_pos h8]; rfl) (SN _))), ER⟩
  ·exact ⟨(), trivial, SC Z (SC Z (SC (by rw [NdM.grant, if_neg (by rw [h8]; simp)]; rfl) (SN _))), ER⟩
 rintro _ -
 refine CD (ts 0 13 (.only 13 (.take 14 (.only 15 .nil)))) ym yq ?_
 refine xeh ?_
 refine xnf ?_
 refine VA.go (AI Z (LB (pv := [(0, .int .i64 5), (1, .int .i64 n.ch.epoch), (12, .int .i64 n.done), (13, .int .i64 (n.grant C)), (14, .int .i64 n.log.length)]) (fgC (ackF n.ch.epoch n.done (n.grant C) n.log.length) mem0) Z Z Z ym Z) ?_)
 refine VA.ent back ?_
 refine VA.go (AQ 0 (ψ := fun v H => H = nmH p C ca cc m (n.send n.ahead (ackF n.ch.epoch n.done (n.grant C) n.log.length))) Z (fun Fr w hF hs _ => nsend_spec Fr w ho _ _) Z Z ybi (fun v H h => by rw [h]; exact ycj) ?_)
 rintro _ _ rfl
 refine xfc ?_
 rw [← hg]
 exact xeo
end
end Nd
namespace Nd
open Go Vg T Api Kv Ch Lg Rd Win Adm Sched Conf Rep Ref16 Rk
attribute [local irreducible] VO VC VA
section
variable {p : Nat} {C : ConfM} {ca : Option Addr} {cc : Nat} {m : MemP} {n : NdM} {y : NmS}
theorem Imp.nmB {y : NmS} {M N : List HP} (h : Imp M N) : Imp (pt p (nmCs C ca cc m n y) ndT :: rlogH y.lp n.log :: radH y.ap C ca cc n.adm :: rrdsH y.rp n.rds :: slH rsnT 30 y.oa n.out.length y.oc (flat sndC n.out) :: M) (nmH p C ca cc m n :: N) :=
 Imp.nm y (IP 0 rfl (IP 0 rfl (IP 0 rfl (IP 0 rfl (IP 0 rfl h)))))
theorem nbase_spec (ms : n.ch.ms.length ≤ 1000) (hm : RwIn memC 2 Fr w m.1 n.ch.ms) (ho : n.out.length ≤ 10000000) : Tri Tryz.prog 106 [.pointer (some ⟨p, 0, none⟩)] Fr w [nmH p C ca cc m n]
  (fun v L => v = .tuple #[] ∧ L = [nmH p C ca cc m n.base]) := by
 have pb := place_bd n
 refine TF 34 Tryz.func106 Z ym tabOk Z Z ?_
 refine xnc ?_
 rintro y -
 show VC _ _ _ [pt p (nmCs C ca cc m n y) ndT, rlogH y.lp n.log, radH y.ap C ca cc n.adm, rrdsH y.rp n.rds, slH rsnT 30 y.oa n.out.length y.oc (flat sndC n.out)] _
 refine xel ?_
 refine xng ?_
 refine xei ?_
 refine VG (VV (fun Fr w hF hs hS => nat_spec Fr w (NmIn.pcs hS 0 Z Z Z Z) (RwIn.of hm hF hs) ms (n.place + 1)) Z ?_)
 refine xel ?_
 have no : ¬ (n.whole = true ∧ 0 ≤ n.place ∧ 0 ≤ n.next) → n.base = n := fun h => by rw [NdM.base, if_neg h]
 refine VG (VO.split 12 Z Z (fun h1 => ?_) (fun h1 => ?_))
 rotate_left
 ·refine xel ?_
  refine VG (VY 17 false Z Z ?_)
  refine zpn ?_
  exact Ret.void rfl (Imp.nmB Imp.nil).ent ⟨rfl, by rw [no (fun h => by rw [h1] at h; cases h.1)]⟩
 refine xng ?_
 refine xel ?_
 by_cases h2 : 0 ≤ n.place
 rotate_left
 ·refine VG (VY 17 false Z (DF h2) ?_)
  refine zpn ?_
  exact Ret.void Z (Imp.nmB Imp.nil).ent ⟨rfl, by rw [no (fun h => h2 h.2.1)]⟩
 refine VG (VY 17 true Z (DT h2) ?_)
 refine xel ?_
 refine CP (p := 0 ≤ n.next) Z (fun h3 => ?_) (fun h3 => CK ?_)
 rotate_left
 ·exact Ret.void Z (Imp.nmB Imp.nil).ent ⟨rfl, by rw [no (fun h => h3 h.2.2)]⟩
 have hg : n.base = n.send n.next (baseF n.ch.epoch n.st) := by rw [NdM.base, if_pos ⟨h1, h2, h3⟩]
 refine CD (ts 0 12 (.only 12 .nil)) ym yq ?_
 refine xeh ?_
 refine VA.go (AI Z (LB (pv := [(0, .int .i64 6), (1, .int .i64 n.ch.epoch), (12, .int .i64 n.st)]) (fgC (baseF n.ch.epoch n.st) mem0) Z Z Z ym Z) ?_)
 refine VA.ent (Imp.nmB Imp.nil).ent ?_
 refine VA.go (AQ 0 (ψ := fun v H => H = nmH p C ca cc m (n.send n.next (baseF n.ch.epoch n.st))) Z (fun Fr w hF hs _ => nsend_spec Fr w ho _ _) Z Z ybi (fun v H h => by rw [h]; exact ycj) ?_)
 rintro _ _ rfl
 refine xfc ?_
 rw [← hg]
 exact xeo
theorem nalive_spec (ho : n.out.length ≤ 10000000) : Tri Tryz.prog 104 [.pointer (some ⟨p, 0, none⟩)] Fr w [nmH p C ca cc m n]
  (fun v L => v = .tuple #[] ∧ L = [nmH p C ca cc m n.alive]) := by
 refine TF 16 Tryz.func104 Z ym tabOk Z Z ?_
 refine xnc ?_
 rintro y -
 show VC _ _ _ [pt p (nmCs C ca cc m n y) ndT, rlogH y.lp n.log, radH y.ap C ca cc n.adm, rrdsH y.rp n.rds, slH rsnT 30 y.oa n.out.length y.oc (flat sndC n.out)] _
 refine xep ?_
 show VC _ _ _ _ _
 refine CS ?_
 refine VC.meetS (σ := Unit) (fun _ => [(0, pV p), (2, .int .i64 (if n.whole then 1 else 0))]) (fun _ => [pt p (nmCs C ca cc m n y) ndT, rlogH y.lp n.log, radH y.ap C ca cc n.adm, rrdsH y.rp n.rds, slH rsnT 30 y.oa n.out.length y.oc (flat sndC n.out)]) (fun _ => True) ?_ ?_
 ·refine xdy ?_
  refine CC Z (fun h => ?_) (fun h => CK ?_)
  ·refine xdy ?_
   exact ⟨(), trivial, by rw [h]; exact sbZ, ER⟩
  ·exact ⟨(), trivial, by rw [h]; exact sbZ, ER⟩
 rintro _ -
 refine xdy ?_
 refine VG (VI (LB (pv := [(0, .int .i64 11), (1, .int .i64 n.ch.epoch), (12, .int .i64 (if n.whole then 1 else 0))]) (fgC (aliveF n.ch.epoch (if n.whole then 1 else 0)) mem0) Z Z Z ym Z) ?_)
 refine VO.ent (Imp.nmB Imp.nil).ent ?_
 refine VG (VQ 0 (ψ := fun v H => H = nmH p C ca cc m n.alive) Z (fun Fr w hF hs _ => nsend_spec Fr w ho _ _) Z ybi ?_)
 rintro _ _ rfl
 refine xgk ?_
 exact xeo
theorem nack_spec (i : Int) : Tri Tryz.prog 118 [.pointer (some ⟨p, 0, none⟩), .int .i64 i] Fr w [nmH p C ca cc m n]
  (fun v L => v = .bool (n.ackB i) ∧ L = [nmH p C ca cc m (n.ack i)]) := by
 refine TF 21 Tryz.func118 Z ym tabOk Z Z ?_
 refine xnc ?_
 rintro y -
 show VC _ _ _ [pt p (nmCs C ca cc m n y) ndT, rlogH y.lp n.log, radH y.ap C ca cc n.adm, rrdsH y.rp n.rds, slH rsnT 30 y.oa n.out.length y.oc (flat sndC n.out)] _
 refine xel ?_
 by_cases h1 : i ≤ n.done
 ·have e : n.ackB i = false := by rw [NdM.ackB, DF yd]; rfl
  refine VG (VY 11 true Z (DT h1) ?_)
  refine zpl ?_
  exact xnh
 refine VG (VY 11 false Z (DF h1) ?_)
 refine xne ?_
 refine xel ?_
 refine CP (p := (n.log.length : Int) < i) Z (fun h2 => ?_) (fun h2 => CK ?_)
 ·have e : n.ackB i = false := by rw [NdM.ackB, DF (show ¬ i ≤ n.log.length by omega), Bool.and_false]
  refine xdy ?_
  exact xnh
 have e : n.ackB i = true := by rw [NdM.ackB, DT (show n.done < i by omega), DT (show i ≤ n.log.length by omega)]; rfl
 have e2 : n.ack i = { n with done := i } := by rw [NdM.ack, if_pos e]
 refine xdy ?_
 refine VG (VO.st 0 (cs' := nmCs C ca cc m { n with done := i } y) Z Z Z Z yck Z Z ?_)
 refine xdy ?_
 refine CR (Ret.bool 4 Z Z e.symm ?_ ⟨rfl, Z⟩)
 rw [e2]
 exact Imp.ent (Imp.nmB (n := { n with done := i }) Imp.nil)
def NdM.wrong (n : NdM) (f : FrameM) (here : Bool) : Int := if f.epoch ≠ n.ch.epoch then 5 else if here = false then 4 else if n.whole = false then 8 else 0
theorem nwrong_spec (h : NmIn Fr w p C ca cc m n y) (f : FM) (here : Bool) : Tri Tryz.prog 177 [.pointer (some ⟨p, 0, none⟩), .agg (fmc f).toArray, .bool here] Fr w []
  (fun v L => v = .int .i64 (n.wrong f.1 here) ∧ L = []) := by
 have hb := h.blk
 refine TF 22 Tryz.func177 Z ym tabOk Z Z ?_
 refine CS (CG (VG (VB (vs := fmc f) Z fun b => VG (VN ?_))))
 refine CS (CS (CD (ts 0 8 .nil) ym yq ?_))
 refine xik ?_
 refine VC.condNE (i := f.1.epoch) (j := n.ch.epoch) Z (fun h1 => ?_) (fun h1 => CK ?_)
 ·refine xdy ?_
  exact CR (Ret.int 6 Z Z (by rw [NdM.wrong, if_pos h1]) Imp.nil.ent ⟨rfl, Z⟩)
 have h1' : ¬ f.1.epoch ≠ n.ch.epoch := fun h => h h1
 refine xdy ?_
 cases here with
 | false =>
  refine zpi ?_
  exact CR (Ret.int 6 Z Z (by rw [NdM.wrong, if_neg h1', if_pos rfl]) Imp.nil.ent ⟨rfl, Z⟩)
 | true =>
  refine xed ?_
  refine xgu ?_
  refine CC Z (fun h2 => ?_) (fun h2 => CK ?_)
  ·refine xdy ?_
   exact CR (Ret.int 6 Z Z (by rw [NdM.wrong, if_neg h1', if_neg ya, if_pos (by simpa using h2)]) Imp.nil.ent ⟨rfl, Z⟩)
  ·refine xdy ?_
   exact CR (Ret.int 6 Z Z (by rw [NdM.wrong, if_neg h1', if_neg ya, if_neg (by simpa using h2)]) Imp.nil.ent ⟨rfl, Z⟩)
def NdM.replyN (n : NdM) (i : Int) : SndM := (32 + ((atI n.log i).getD entZ).client, replyF ((atI n.log i).getD entZ).client ((atI n.log i).getD entZ).seq 0 ((atI (logRun n.log).2 i).getD resZ))
def NdM.fin (n : NdM) (k : Nat) : NdM := { n with done := n.done + k, out := n.out ++ (List.range k).map fun j => n.replyN (n.done + 1 + (j : Nat)) }
def NdM.finish (n : NdM) : NdM := if n.tail then n.fin (n.log.length - n.done).toNat else n
theorem fin_succ (n : NdM) (k : Nat) : n.fin (k + 1) = { n.fin k with done := n.done + k + 1, out := (n.fin k).out ++ [n.replyN (n.done + 1 + k)] } := by
 have : n.done + ((k + 1 : Nat) : Int) = n.done + k + 1 := by omega
 unfold NdM.fin
 rw [this, List.range_succ, List.map_append, ← List.append_assoc]
 rfl
theorem nfinish_spec (ok : NdOk C n) (hm : RwIn memC 2 Fr w m.1 n.ch.ms) (ho : n.out.length ≤ 9000000) : Tri Tryz.prog 95 [.pointer (some ⟨p, 0, none⟩)] Fr w [nmH p C ca cc m n]
  (fun v L => v = .tuple #[] ∧ L = [nmH p C ca cc m n.finish]) := by
 have h1 := ok.ms; have h2 := ok.d0; have h3 := ok.d1; have h4 := ok.log
 have hrl := logRun_len n.log
 refine TF 54 Tryz.func95 Z ym tabOk Z Z ?_
 refine CS (CS (CG ?_))
 refine VG (VV (fun Fr w hF hs hS => by
  obtain ⟨y, h⟩ := NmIn.of (hS.at_ 0 rfl)
  exact ntail_spec Fr w h (RwIn.of hm hF hs) ok.ms) Z ?_)
 refine xgk ?_
 refine CC Z (fun ht => ?_) (fun ht => CK ?_)
 ·have ht : ¬ n.tail = true := by simpa using ht
  exact CR (Ret.void Z ER ⟨rfl, by rw [NdM.finish, if_neg ht]⟩)
 have ht : n.tail = true := by simpa using ht
 have hf : n.finish = n.fin (n.log.length - n.done).toNat := by rw [NdM.finish, if_pos ht]
 show VC _ _ _ _ _
 refine xjt ?_
 refine VC.loop (σ := Nat) (fun k => [(0, pV p)]) (fun k => [nmH p C ca cc m (n.fin k)]) (fun k => n.done + k ≤ n.log.length) (fun k => n.log.length - k) 0
  (by simpa using h3) sbZ (by show Ent _ _ [nmH p C ca cc m (n.fin 0)]; rw [show n.fin 0 = n from by unfold NdM.fin; simp]; exact ER) ?_
 rintro k hk
 refine VC.opn 0 Z (HOpn.nm p C ca cc m (n.fin k)) ?_
 rintro y -
 show VC _ _ _ [pt p (nmCs C ca cc m (n.fin k) y) ndT, rlogH y.lp (n.fin k).log, radH y.ap C ca cc (n.fin k).adm, rrdsH y.rp (n.fin k).rds, slH rsnT 30 y.oa (n.fin k).out.length y.oc (flat sndC (n.fin k).out)] _
 refine CS (CS (CD (ts 0 5 (.only 5 (.take 6 .nil))) ym yq ?_))
 refine xeh ?_
 refine xnf ?_
 refine xfc ?_
 refine CP (p := n.done + (k : Int) < (n.log.length : Int)) Z (fun h5 => CK ?_) (fun h5 => CX ?_)
 rotate_left
 ·have : k = (n.log.length - n.done).toNat := by omega
  subst this
  exact Ret.void Z (Imp.nmB Imp.nil).ent ⟨rfl, by rw [hf]⟩
 obtain ⟨N1, hN1⟩ : ∃ N1 : NdM, N1 = { n.fin k with done := n.done + k + 1 } := ⟨_, rfl⟩
 have eL : N1.log = n.log := by rw [hN1]; rfl
 have eO : N1.out = (n.fin k).out := by rw [hN1]
 have hol : (n.fin k).out.length = n.out.length + k := by unfold NdM.fin; simp
 have hi : N1.done = n.done + (k : Int) + 1 := by rw [hN1]
 refine xjt ?_
 refine xdy ?_
 refine VG (VP Z Z (by show -9223372036854775808 ≤ n.done + (k : Int) + 1; omega) (by show n.done + (k : Int) + 1 ≤ 9223372036854775807; omega) ?_)
 refine VG (VO.st 0 (cs' := nmCs C ca cc m N1 y) Z Z Z Z yck (by rw [hN1]; rfl) Z ?_)
 refine xgk ?_
 show VC _ _ _ _ _
 refine CN (L' := [pt p (nmCs C ca cc m N1 y) ndT, rlogH y.lp N1.log, radH y.ap C ca cc N1.adm, rrdsH y.rp N1.rds, slH rsnT 30 y.oa N1.out.length y.oc (flat sndC N1.out)]) (by rw [hN1]; exact ER) ?_
 obtain ⟨e, he⟩ : ∃ e, e = (atI n.log N1.done).getD entZ := ⟨_, rfl⟩
 obtain ⟨r, hr⟩ : ∃ r, r = (atI (logRun n.log).2 N1.done).getD resZ := ⟨_, rfl⟩
 have hem : e ∈ n.log := by
  obtain ⟨_, x, _, _, hx, hat⟩ := atI_some (l := n.log) (i := N1.done) yd yd
  rw [he, hat]
  exact ME hx
 have hec := ok.logc e hem
 refine CS ?_
 refine VC.meetS (σ := Nat) (fun d => [(0, pV p), (2, pV d)]) (fun d => [nmH p C ca cc m N1, pt d (entC e) entT]) (fun _ => True) ?_ ?_
 ·refine xni ?_
  refine xeh ?_
  refine VA.go (VA.two Z Z Z Z Z (OpT.callP (φ := fun v => v = .tuple #[.agg (entC e).toArray, .bool (atI n.log N1.done).isSome]) (fun Fr w hF hs hS => by rw [he, ← eL]; exact rlat_spec Fr w (hS.at_ 1 Z) N1.done yd yd) Z) Z Z Z (OpT.alloc Z) ?_ ?_ ?_ ?_)
  ·rintro _ _ ⟨rfl, rfl⟩
   exact yr
  ·rintro _ _ ⟨d, rfl, rfl⟩
   exact yr
  ·rintro _ _ ⟨rfl, rfl⟩
   refine VA.go (AO (OpT.alloc Z) Z ?_ ?_)
   ·rintro _ _ ⟨d, rfl, rfl⟩
    exact yr
   rintro _ _ ⟨d, rfl, rfl⟩
   refine xnj ?_
   refine xeh ?_
   exact xnk
  ·rintro _ _ ⟨d, rfl, rfl⟩
   refine VA.go (AR (fun Fr w hF hs hS => rlat_spec Fr w (hS.at_ 2 Z) N1.done yd yd) Z Z yr ?_)
   rw [show (atI N1.log N1.done).getD entZ = e from by rw [eL, he]]
   refine xnj ?_
   refine xeh ?_
   exact xnk
 rintro d -
 refine VC.opn 0 Z (HOpn.nm p C ca cc m N1) ?_
 rintro y2 -
 show VC _ _ _ [pt p (nmCs C ca cc m N1 y2) ndT, rlogH y2.lp N1.log, radH y2.ap C ca cc N1.adm, rrdsH y2.rp N1.rds, slH rsnT 30 y2.oa N1.out.length y2.oc (flat sndC N1.out), pt d (entC e) entT] _
 refine CS ?_
 refine VC.meetS (σ := Nat) (fun q => [(0, pV p), (2, pV d), (4, pV q)]) (fun q => [nmH p C ca cc m N1, pt q (resC r) resT, pt d (entC e) entT]) (fun _ => True) ?_ ?_
 ·refine xni ?_
  refine xeh ?_
  refine VA.go (VA.two Z Z Z Z Z (OpT.callP (φ := fun v => v = .tuple #[.agg (resC r).toArray, .bool (atI (logRun n.log).2 N1.done).isSome]) (fun Fr w hF hs hS => by rw [hr, ← eL]; exact rlres_spec Fr w (hS.at_ 1 Z) (by rw [eL]; exact ok.num) (by rw [eL]; omega) N1.done yd yd) Z) Z Z Z (OpT.alloc Z) ?_ ?_ ?_ ?_)
  ·rintro _ _ ⟨rfl, rfl⟩
   exact yr
  ·rintro _ _ ⟨q, rfl, rfl⟩
   exact yr
  ·rintro _ _ ⟨rfl, rfl⟩
   refine VA.go (AO (OpT.alloc Z) Z ?_ ?_)
   ·rintro _ _ ⟨q, rfl, rfl⟩
    exact yr
   rintro _ _ ⟨q, rfl, rfl⟩
   refine zqr ?_
   exact xnm
  ·rintro _ _ ⟨q, rfl, rfl⟩
   refine VA.go (AR (fun Fr w hF hs hS => rlres_spec Fr w (hS.at_ 2 Z) (by rw [eL]; exact ok.num) (by rw [eL]; omega) N1.done yd yd) Z Z yr ?_)
   rw [show (atI (logRun N1.log).2 N1.done).getD resZ = r from by rw [eL, hr]]
   refine zqr ?_
   exact xnm
 rintro q -
 refine xlf ?_
 refine VG (VO.ld 2 Z Z Z Z ?_)
 refine VG (VO.ld 2 Z Z Z Z ?_)
 refine VG (VL 1 (resC r) Z Z Z Z ?_)
 refine VG (VQ 0 (ψ := fun v H => H = nmH p C ca cc m (N1.reply e.client e.seq 0 r)) Z (fun Fr w hF hs _ => nreply_spec Fr w (by rw [eO]; omega) e.client e.seq 0 yd yd r) Z ybi ?_)
 rintro _ _ rfl
 refine xgk ?_
 have hN2 : N1.reply e.client e.seq 0 r = n.fin (k + 1) := by
  rw [fin_succ, NdM.reply, NdM.send, eO, hN1, he, hr, hN1]
  rw [NdM.replyN, show n.done + 1 + (k : Int) = n.done + k + 1 from by omega]
 rw [hN2]
 exact ⟨k + 1, by push_cast; omega, by dsimp only; omega, sbZ, (IP 0 Z Imp.nil).ent⟩
end
end Nd
namespace Nd
open Go Vg T Api Kv Ch Lg Rd Win Adm Sched Conf Rep Ref16 Rk
attribute [local irreducible] VO VC VA
section
variable {p : Nat} {C : ConfM} {ca : Option Addr} {cc : Nat} {m : MemP} {n : NdM} {y : NmS}
def NdM.becomeB (n : NdM) : Bool := decide (0 ≤ n.place) && (!n.whole && (decide (0 ≤ n.bs) && decide (n.bs ≤ n.log.length)))
def NdM.becomes (n : NdM) : NdM := if n.becomeB then NdM.base { n with whole := true, st := n.log.length } else n
theorem nbecomes_spec (ms : n.ch.ms.length ≤ 1000) (hm : RwIn memC 2 Fr w m.1 n.ch.ms) (ho : n.out.length ≤ 9000000) : Tri Tryz.prog 117 [.pointer (some ⟨p, 0, none⟩)] Fr w [nmH p C ca cc m n]
  (fun v L => v = .tuple #[] ∧ L = [nmH p C ca cc m n.becomes]) := by
 have pb := place_bd n
 refine TF 38 Tryz.func117 Z ym tabOk Z Z ?_
 refine xnc ?_
 rintro y -
 show VC _ _ _ [pt p (nmCs C ca cc m n y) ndT, rlogH y.lp n.log, radH y.ap C ca cc n.adm, rrdsH y.rp n.rds, slH rsnT 30 y.oa n.out.length y.oc (flat sndC n.out)] _
 refine CS ?_
 refine VC.meetS (σ := Unit) (fun _ => [(0, pV p), (27, .bool n.becomeB)]) (fun _ => [pt p (nmCs C ca cc m n y) ndT, rlogH y.lp n.log, radH y.ap C ca cc n.adm, rrdsH y.rp n.rds, slH rsnT 30 y.oa n.out.length y.oc (flat sndC n.out)]) (fun _ => True) ?_ ?_
 ·refine CD (.take 0 (.only 1 (ts 2 17 (ts 20 4 (.only 19 (ts 24 2 .nil)))))) ym yq ?_
  refine VA.go (AR (fun Fr w hF hs hS => nplace_spec Fr w (NmIn.pcs hS 0 Z Z Z Z) (RwIn.of hm hF hs) ms) Z Z yr ?_)
  refine xeh ?_
  by_cases h1 : 0 ≤ n.place
  rotate_left
  ·have e : n.becomeB = false := by rw [NdM.becomeB, DF h1]; rfl
   refine VA.go (AY 5 false Z (DF h1) ?_)
   refine VA.go (AY 12 false Z Z ?_)
   refine xim ?_
   refine zpp ?_
   rw [e]
   exact xhh
  refine VA.go (AY 5 true Z (DT h1) ?_)
  refine xeh ?_
  by_cases hw : n.whole = true
  ·have e : n.becomeB = false := by rw [NdM.becomeB, hw]; simp
   refine VA.go (AY 12 false Z (by rw [hw]; rfl) ?_)
   refine xim ?_
   refine zpp ?_
   rw [e]
   exact xhh
  ·have hw : n.whole = false := by simpa using hw
   refine VA.go (AY 12 true Z (by rw [hw]; rfl) ?_)
   refine xeh ?_
   by_cases h2 : 0 ≤ n.bs
   rotate_left
   ·have e : n.becomeB = false := by rw [NdM.becomeB, DF h2]; simp
    refine VA.go (AY 19 false Z (DF h2) ?_)
    refine zpp ?_
    rw [e]
    exact xhh
   refine VA.go (AY 19 true Z (DT h2) ?_)
   refine xeh ?_
   refine xnf ?_
   refine xeh ?_
   have e : n.becomeB = decide (n.bs ≤ n.log.length) := by rw [NdM.becomeB, DT h1, hw, DT h2]; rfl
   rw [e]
   exact xhh
 rintro _ -
 refine CC Z (fun h => ?_) (fun h => CK ?_)
 rotate_left
 ·exact Ret.void Z (Imp.nmB Imp.nil).ent ⟨rfl, by rw [NdM.becomes, if_neg yar]⟩
 obtain ⟨n2, hn2⟩ : ∃ n2 : NdM, n2 = { n with whole := true, st := n.log.length } := ⟨_, rfl⟩
 have e : n.becomes = n2.base := by rw [NdM.becomes, if_pos h, hn2]
 refine zro ?_
 refine xne ?_
 refine VG (VO.st 0 (cs' := nmCs C ca cc m { n with whole := true } y) Z Z Z Z ycd Z Z ?_)
 refine VG (VO.st 0 (cs' := nmCs C ca cc m n2 y) Z Z Z Z (by show 18 < 29; omega) (by rw [hn2]; rfl) Z ?_)
 refine xgk ?_
 show VC _ _ _ _ _
 refine CN (L' := [nmH p C ca cc m n2]) (by rw [hn2]; exact Imp.ent (Imp.nmB (n := { n with whole := true, st := n.log.length }) Imp.nil)) ?_
 refine CG ?_
 refine VG (VQ 0 (ψ := fun v H => H = nmH p C ca cc m n2.base) Z (fun Fr w hF hs _ => nbase_spec Fr w (by rw [hn2]; exact ms) (by rw [hn2]; exact RwIn.of hm hF hs) ycl) Z ybi ?_)
 rintro _ _ rfl
 refine xgk ?_
 rw [e]
 exact xeo
def NdM.read (n : NdM) (f : FrameM) (now : Int) : NdM :=
 if n.wrong f n.tail ≠ 0 then n.refuse f (n.wrong f n.tail)
 else if f.deadline < now then n.refuse f 2
 else if (n.rds.l.length : Int) < n.rds.cap then NdM.send { n with rds := n.rds.put f (kvLook (logRun n.log).1 f.op.key n.log.length) } 16 (confirmF n.ch.epoch (n.rds.last + 1))
 else n.refuse f 1
theorem nread_spec (ok : NdOk C n) (hm : RwIn memC 2 Fr w m.1 n.ch.ms) (ho : n.out.length ≤ 9000000) (f : FM) (now : Int) (hc0 : -1000000 ≤ f.1.client) (hc1 : f.1.client ≤ 1000000) : Tri Tryz.prog 113 [.pointer (some ⟨p, 0, none⟩), .agg (fmc f).toArray, .int .i64 now] Fr w [nmH p C ca cc m n]
  (fun v L => v = .tuple #[] ∧ L = [nmH p C ca cc m (n.read f.1 now)]) := by
 refine TF 56 Tryz.func113 Z ym tabOk Z Z ?_
 refine CS (CG (VG (VB (vs := fmc f) Z fun fb => VG (VN ?_))))
 refine xmy ?_
 rintro y -
 show VC _ _ _ [pt p (nmCs C ca cc m n y) ndT, rlogH y.lp n.log, radH y.ap C ca cc n.adm, rrdsH y.rp n.rds, slH rsnT 30 y.oa n.out.length y.oc (flat sndC n.out), pt fb (fmc f) frT] _
 refine CS (CD (ts 0 3 (.only 3 (.only 4 (.take 5 .nil)))) ym yq ?_)
 refine xnn ?_
 refine VA.go (AR (fun Fr w hF hs hS => ntail_spec Fr w (NmIn.pcs hS 0 Z Z Z Z) (RwIn.of hm hF hs) ok.ms) Z Z yr ?_)
 refine VA.go (AR (fun Fr w hF hs hS => nwrong_spec Fr w (NmIn.pcs hS 0 Z Z Z Z) f n.tail) Z Z yr ?_)
 refine xfc ?_
 obtain ⟨r0, hr0⟩ : ∃ r0, r0 = n.wrong f.1 n.tail := ⟨_, rfl⟩
 rw [← hr0]
 refine CS ?_
 refine VC.meetS (σ := Int) (fun r => [(0, pV p), (4, pV fb), (6, .int .i64 r)]) (fun r => [nmH p C ca cc m n, pt fb (fmc f) frT]) (fun r => n.read f.1 now = n.refuse f.1 r) ?_ ?_
 rotate_left
 ·rintro r hr
  refine xdy ?_
  refine VG (VL 1 (fmc f) Z Z Z Z ?_)
  refine VG (VQ 0 (ψ := fun v H => H = nmH p C ca cc m (n.refuse f.1 r)) Z (fun Fr w hF hs _ => nrefuse_spec Fr w yd f r hc0 hc1) Z ybi ?_)
  rintro _ _ rfl
  refine xgk ?_
  rw [← hr]
  exact xnb
 by_cases h1 : r0 = 0
 rotate_left
 ·have e : n.read f.1 now = n.refuse f.1 r0 := by rw [NdM.read, ← hr0, if_pos h1]
  refine xhm ?_
  refine xfo ?_
  refine VG (VY 16 false Z ycm ?_)
  refine xfo ?_
  refine xdz ?_
  refine xfo ?_
  refine CE (i := r0) (j := 0) Z (fun h => absurd h h1) (fun h => CK ?_)
  exact ⟨r0, e, sbZ, (Imp.nmB Imp.refl).ent⟩
 subst h1
 have hno : ¬ n.wrong f.1 n.tail ≠ 0 := fun h => h hr0.symm
 refine xhm ?_
 refine xfo ?_
 refine VG (VY 16 true Z Z ?_)
 refine xfo ?_
 refine CP (p := f.1.deadline < now) Z (fun h2 => ?_) (fun h2 => ?_)
 ·refine xdy ?_
  exact ⟨2, by rw [NdM.read, if_neg hno, if_pos h2], sbZ, (Imp.nmB Imp.refl).ent⟩
 refine xfo ?_
 refine CE (i := 0) (j := 0) Z (fun _ => ?_) (fun h => absurd Z h)
 have hrn := ok.rn1; have hr0 := ok.rn0; have hrl := ok.rl; have hlg := ok.log
 obtain ⟨x, hx⟩ : ∃ x, x = kvLook (logRun n.log).1 f.1.op.key n.log.length := ⟨_, rfl⟩
 refine CS (CD (ts 0 12 (.only 12 (.only 13 (ts 14 5 .nil)))) ym yq ?_)
 refine xfr ?_
 refine xnn ?_
 refine xfr ?_
 refine VA.go (AR (fun Fr w hF hs hS => rllook_spec Fr w (hS.at_ 1 Z) ok.num yd f.1.op.key) Z Z yr ?_)
 rw [← hx]
 by_cases h3 : (n.rds.l.length : Int) < n.rds.cap
 ·refine VA.go (AQ 3 (ψ := fun v H => v = .tuple #[.int .i64 (n.rds.last + 1), .int .i64 0] ∧ H = rrdsH y.rp (n.rds.put f.1 x)) Z (fun Fr w hF hs _ => rrput_spec Fr w yd hr0 yd f.1 f.2 x) Z Z (fun v L h => by rw [if_pos h3] at h; exact ⟨_, h.2, h.1, Z⟩) (fun v H h => by rw [h.2]; exact yr) ?_)
  rintro _ _ ⟨rfl, rfl⟩
  refine xfc ?_
  obtain ⟨n2, hn2⟩ : ∃ n2 : NdM, n2 = { n with rds := n.rds.put f.1 x } := ⟨_, rfl⟩
  have e : n.read f.1 now = n2.send 16 (confirmF n.ch.epoch (n.rds.last + 1)) := by rw [NdM.read, if_neg hno, if_neg h2, if_pos h3, hn2, hx]
  refine xdy ?_
  refine CE (i := 0) (j := 0) Z (fun _ => ?_) (fun h => absurd Z h)
  refine xdy ?_
  refine VG (VI (LB (pv := [(0, .int .i64 9), (1, .int .i64 n.ch.epoch), (12, .int .i64 (n.rds.last + 1))]) (fgC (confirmF n.ch.epoch (n.rds.last + 1)) mem0) Z Z Z ym Z) ?_)
  refine VO.ent (L' := [nmH p C ca cc m n2]) (by rw [hn2]; exact Imp.ent (Imp.nmB (n := { n with rds := n.rds.put f.1 x }) (y := y) Imp.nil)) ?_
  refine VG (VQ 0 (ψ := fun v H => H = nmH p C ca cc m (n2.send 16 (confirmF n.ch.epoch (n.rds.last + 1)))) Z (fun Fr w hF hs _ => nsend_spec Fr w ycl _ _) Z ybi ?_)
  rintro _ _ rfl
  refine xgk ?_
  rw [← e]
  exact CR (Ret.void Z ER ⟨rfl, Z⟩)
 ·refine VA.go (AQ 3 (ψ := fun v H => v = .tuple #[.int .i64 0, .int .i64 60] ∧ H = rrdsH y.rp n.rds) Z (fun Fr w hF hs _ => rrput_spec Fr w yd hr0 yd f.1 f.2 x) Z Z (fun v L h => by rw [if_neg h3, RdsM.put, if_neg h3] at h; exact ⟨_, h.2, h.1, Z⟩) (fun v H h => by rw [h.2]; exact yr) ?_)
  rintro _ _ ⟨rfl, rfl⟩
  refine xfc ?_
  refine xdy ?_
  refine CE (i := 60) (j := 0) Z (fun h => absurd h yy) (fun _ => CK ?_)
  refine xdy ?_
  exact ⟨1, by rw [NdM.read, if_neg hno, if_neg h2, if_neg h3], sbZ, (Imp.nmB Imp.refl).ent⟩
end
end Nd
namespace Nd
open Go Vg T Api Kv Ch Lg Rd Win Adm Sched Conf Rep Ref16 Rk
attribute [local irreducible] VO VC VA
section
variable {p : Nat} {C : ConfM} {ca : Option Addr} {cc : Nat} {m : MemP} {n : NdM} {y : NmS}
theorem raOffer_same (A : AdmM) (f : FrameM) (now : Int) : (raOffer A f now).2.clients = A.clients ∧ (raOffer A f now).2.marks.length = A.marks.length := by
 obtain ⟨h1, h2⟩ := raW_same A f now
 unfold raOffer
 split
 ·split
  ·obtain ⟨k1, k2, _⟩ := barM_same (raW A f now).2 f.client f.seq f.try_
   exact ⟨k1.trans h1, k2.trans (by rw [h2])⟩
  ·exact ⟨h1, by rw [h2]⟩
 ·exact ⟨rfl, Z⟩
def NdM.judge (n : NdM) (f : FrameM) (now : Int) : Option ResM × Int × AdmM :=
 if n.adm.may f = false then (none, 10, n.adm)
 else if n.adm.barred f.client f.seq f.try_ = true then (none, 7, n.adm)
 else if n.wrong f (n.place == 0) = 0 ∧ n.drains = true then (none, 3, n.adm)
 else if n.wrong f (n.place == 0) = 0 ∧ 0 < (lastOf n.log f.client).1 ∧ f.seq = (lastOf n.log f.client).1 then
  (if (lastOf n.log f.client).2 ≤ n.done then (some ((atI (logRun n.log).2 (lastOf n.log f.client).2).getD resZ), 0, n.adm) else (none, 6, n.adm))
 else if n.wrong f (n.place == 0) = 0 ∧ f.seq < (lastOf n.log f.client).1 then (none, 7, n.adm)
 else if n.wrong f (n.place == 0) = 0 ∧ 4096 ≤ n.log.length then (none, 1, n.adm)
 else if n.wrong f (n.place == 0) = 0 then (none, raOffer n.adm f now)
 else (none, n.wrong f (n.place == 0), n.adm)
def NdM.told (n : NdM) (f : FrameM) (r : Int) (A : AdmM) : NdM :=
 if r = 0 then { n with adm := A }
 else if r ≠ 6 ∧ r ≠ 10 then NdM.refuse { n with adm := (A.barM f.client f.seq f.try_).2 } f r
 else NdM.refuse { n with adm := A } f r
def NdM.update (n : NdM) (f : FrameM) (now : Int) : NdM := match (n.judge f now).1 with
 | some r => n.reply f.client f.seq f.try_ r
 | none => n.told f (n.judge f now).2.1 (n.judge f now).2.2
theorem last_idx {es : List EntryM} (hnum : Num es) (c : Int) : 0 ≤ (lastOf es c).2 ∧ (lastOf es c).2 ≤ es.length := by
 have key : ∀ k, k ≤ es.length → 0 ≤ (lastOf (es.take k) c).2 ∧ (lastOf (es.take k) c).2 ≤ k := by
  intro k
  induction k with
  | zero => intro _; exact ⟨by show (0 : Int) ≤ 0; omega, by show (0 : Int) ≤ _; omega⟩
  | succ k ih =>
   intro hk
   obtain ⟨e, he⟩ : ∃ e, es[k]? = some e := ⟨_, GE yd⟩
   have h1 := hnum k e he
   have h2 := ih yd
   rw [List.take_add_one, he]
   show 0 ≤ (lastOf (es.take k ++ [e]) c).2 ∧ (lastOf (es.take k ++ [e]) c).2 ≤ _
   rw [lastOf_snoc]
   split
   ·show 0 ≤ e.index ∧ e.index ≤ _; omega
   ·omega
 have := key es.length (NR _)
 rwa [List.take_length] at this
theorem nupdate_spec (ok : NdOk C n) (hm : RwIn memC 2 Fr w m.1 n.ch.ms) (ho : n.out.length ≤ 9000000) (f : FM) (now : Int) (hc0 : -1000000 ≤ f.1.client) (hc1 : f.1.client ≤ 1000000) : Tri Tryz.prog 114 [.pointer (some ⟨p, 0, none⟩), .agg (fmc f).toArray, .int .i64 now] Fr w [nmH p C ca cc m n]
  (fun v L => v = .tuple #[] ∧ L = [nmH p C ca cc m (n.update f.1 now)]) := by
 have hlg := ok.log
 obtain ⟨li0, li1⟩ := last_idx ok.num f.1.client
 refine TF 134 Tryz.func114 Z ym tabOk Z Z ?_
 refine CS (CG (VG (VB (vs := fmc f) Z fun fb => VG (VN ?_))))
 refine xmy ?_
 rintro y -
 show VC _ _ _ [pt p (nmCs C ca cc m n y) ndT, rlogH y.lp n.log, radH y.ap C ca cc n.adm, rrdsH y.rp n.rds, slH rsnT 30 y.oa n.out.length y.oc (flat sndC n.out), pt fb (fmc f) frT] _
 refine CS (CD (ts 0 3 (.only 3 (.take 4 (.only 5 (.take 6 .nil))))) ym yq ?_)
 refine xnn ?_
 refine VA.go (AR (fun Fr w hF hs hS => nplace_spec Fr w (NmIn.pcs hS 0 Z Z Z Z) (RwIn.of hm hF hs) ok.ms) Z Z yr ?_)
 refine VA.go (AR (fun Fr w hF hs hS => nwrong_spec Fr w (NmIn.pcs hS 0 Z Z Z Z) f (n.place == 0)) Z Z yr ?_)
 refine xfc ?_
 obtain ⟨r0, hr0⟩ : ∃ r0, r0 = n.wrong f.1 (n.place == 0) := ⟨_, rfl⟩
 rw [← hr0]
 obtain ⟨l, hl⟩ : ∃ l, l = lastOf n.log f.1.client := ⟨_, rfl⟩
 rw [← hl] at li0 li1
 refine CS (CD (ts 0 6 (.only 6 (ts 7 5 .nil))) ym yq ?_)
 refine xfr ?_
 refine VA.go (AR (fun Fr w hF hs hS => rllast_spec Fr w (hS.at_ 1 Z) ok.num yd f.1.client) Z Z yr ?_)
 rw [← hl]
 refine xfc ?_
 refine CS ?_
 refine VC.meetS (σ := Int × AdmM) (fun s => [(0, pV p), (4, pV fb), (6, .int .i64 s.1)]) (fun s => [nmH p C ca cc m { n with adm := s.2 }, pt fb (fmc f) frT]) (fun s => n.update f.1 now = n.told f.1 s.1 s.2 ∧ s.2.clients = n.adm.clients ∧ s.2.marks.length = n.adm.marks.length) ?_ ?_
 ·have fin : ∀ {r : Int} {j : Option ResM × Int × AdmM}, n.judge f.1 now = (none, r, n.adm) → n.update f.1 now = n.told f.1 r n.adm := fun {r j} h => by rw [NdM.update, h]
  have jd : n.judge f.1 now = if n.adm.may f.1 = false then (none, 10, n.adm)
    else if n.adm.barred f.1.client f.1.seq f.1.try_ = true then (none, 7, n.adm)
    else if r0 = 0 ∧ n.drains = true then (none, 3, n.adm)
    else if r0 = 0 ∧ 0 < l.1 ∧ f.1.seq = l.1 then (if l.2 ≤ n.done then (some ((atI (logRun n.log).2 l.2).getD resZ), 0, n.adm) else (none, 6, n.adm))
    else if r0 = 0 ∧ f.1.seq < l.1 then (none, 7, n.adm)
    else if r0 = 0 ∧ 4096 ≤ n.log.length then (none, 1, n.adm)
    else if r0 = 0 then (none, raOffer n.adm f.1 now)
    else (none, r0, n.adm) := by rw [hr0, hl]; rfl
  have done_ : ∀ {X : Cx} {E : Env} {r : Int}, Vg.look E 0 = some (.pointer (some ⟨p, 0, none⟩)) → Vg.look E 4 = some (.pointer (some ⟨fb, 0, none⟩)) → Vg.look E 6 = some (.int .i64 r) → n.judge f.1 now = (none, r, n.adm) →
    ∃ s : Int × AdmM, (n.update f.1 now = n.told f.1 s.1 s.2 ∧ s.2.clients = n.adm.clients ∧ s.2.marks.length = n.adm.marks.length) ∧ Sub [(0, pV p), (4, pV fb), (6, .int .i64 s.1)] E ∧ Ent X [pt p (nmCs C ca cc m n y) ndT, rlogH y.lp n.log, radH y.ap C ca cc n.adm, rrdsH y.rp n.rds, slH rsnT 30 y.oa n.out.length y.oc (flat sndC n.out), pt fb (fmc f) frT] [nmH p C ca cc m { n with adm := s.2 }, pt fb (fmc f) frT] := fun {X E r} h0 h1 h2 h3 =>
   ⟨(r, n.adm), ⟨by rw [NdM.update, h3], rfl, rfl⟩, SC h0 (SC h1 (SC h2 (SN _))), Imp.ent (Imp.nmB (n := n) Imp.refl)⟩
  refine CS (CD (ts 0 5 (.only 5 (.take 6 .nil))) ym yq ?_)
  refine xfr ?_
  refine xnn ?_
  refine VA.go (AR (fun Fr w hF hs hS => by
   obtain ⟨sp, h⟩ := RadIn.of (hS.at_ 2 rfl)
   exact rmay_spec Fr w ok.ra h f) Z Z yr ?_)
  refine xfc ?_
  refine CC Z (fun h1 => ?_) (fun h1 => ?_)
  ·have h1 : n.adm.may f.1 = false := by simpa using h1
   refine xfn ?_
   exact done_ Z Z Z (by rw [jd, if_pos h1])
  have h1 : ¬ n.adm.may f.1 = false := by simpa using h1
  refine xfa ?_
  refine xfr ?_
  refine VA.go (AR (fun Fr w hF hs hS => by
   obtain ⟨sp, h⟩ := RadIn.of (hS.at_ 2 rfl)
   exact rbarred_spec Fr w ok.ra.cl ok.ra.marks ok.ra.c6 h.blk f.1.client f.1.seq f.1.try_) Z Z yr ?_)
  refine xfc ?_
  refine CC Z (fun h2 => ?_) (fun h2 => ?_)
  ·refine xfn ?_
   exact done_ Z Z Z (by rw [jd, if_neg h1, if_pos h2])
  have h2 : ¬ n.adm.barred f.1.client f.1.seq f.1.try_ = true := by rw [h2]; simp
  refine xhm ?_
  by_cases h0 : r0 = 0
  rotate_left
  ·refine xfo ?_
   refine VG (VY 47 false Z ycn ?_)
   refine xfo ?_
   refine xdz ?_
   refine xfo ?_
   refine VG (VY 53 false Z ycn ?_)
   refine xfo ?_
   refine VG (VY 57 false Z Z ?_)
   refine xfo ?_
   refine xdz ?_
   refine xfo ?_
   refine VG (VY 89 false Z ycn ?_)
   refine xfo ?_
   refine xdz ?_
   refine xfo ?_
   refine VG (VY 97 false Z ycn ?_)
   refine xfo ?_
   refine xdz ?_
   refine xfo ?_
   refine CE (i := r0) (j := 0) Z (fun h => absurd h h0) (fun _ => CK ?_)
   exact done_ Z Z Z (by rw [jd, if_neg h1, if_neg h2, if_neg (fun h => h0 h.1), if_neg (fun h => h0 h.1), if_neg (fun h => h0 h.1), if_neg (fun h => h0 h.1), if_neg h0])
  subst h0
  refine VG (VY 47 true Z Z ?_)
  refine xnd ?_
  refine xfo ?_
  refine CC Z (fun h3 => ?_) (fun h3 => ?_)
  ·refine xfn ?_
   exact done_ Z Z Z (by rw [jd, if_neg h1, if_neg h2, if_pos ⟨rfl, h3⟩])
  have h3 : ¬ ((0 : Int) = 0 ∧ n.drains = true) := fun h => by rw [h3] at h; cases h.2
  refine CS ?_
  refine VC.meetS (σ := Bool) (fun d => [(0, pV p), (2, .int .i64 now), (4, pV fb), (6, .int .i64 0), (7, .int .i64 l.1), (8, .int .i64 l.2), (62, .bool d)]) (fun _ => [pt p (nmCs C ca cc m n y) ndT, rlogH y.lp n.log, radH y.ap C ca cc n.adm, rrdsH y.rp n.rds, slH rsnT 30 y.oa n.out.length y.oc (flat sndC n.out), pt fb (fmc f) frT]) (fun d => d = true ↔ (0 < l.1 ∧ f.1.seq = l.1)) ?_ ?_
  ·refine CG ?_
   refine xfo ?_
   refine VG (VY 53 true Z Z ?_)
   refine xfo ?_
   by_cases h4 : 0 < l.1
   ·refine VG (VY 57 true Z (DT h4) ?_)
    refine xfo ?_
    exact ⟨_, by simp [h4], SC Z (SC Z (SC Z (SC Z (SC Z (SC Z (SC Z (SN _))))))), ER⟩
   ·refine VG (VY 57 false Z (DF h4) ?_)
    refine xfo ?_
    exact ⟨false, by simp [h4], sbZ, ER⟩
  rintro d hd
  refine CC Z (fun h4 => ?_) (fun h4 => ?_)
  ·have h4 := hd.1 h4
   refine xfn ?_
   refine CP (p := l.2 ≤ n.done) Z (fun h5 => ?_) (fun h5 => CK ?_)
   rotate_left
   ·refine xfn ?_
    exact done_ Z Z Z (by rw [jd, if_neg h1, if_neg h2, if_neg h3, if_pos ⟨rfl, h4⟩, if_neg h5])
   obtain ⟨x, hx⟩ : ∃ x, x = (atI (logRun n.log).2 l.2).getD resZ := ⟨_, rfl⟩
   have e : n.update f.1 now = n.reply f.1.client f.1.seq f.1.try_ x := by rw [NdM.update, jd, if_neg h1, if_neg h2, if_neg h3, if_pos ⟨rfl, h4⟩, if_pos h5, hx]
   refine xfn ?_
   refine VG (VV (fun Fr w hF hs hS => rlres_spec Fr w (hS.at_ 1 Z) ok.num yd l.2 yd yd) Z ?_)
   rw [← hx]
   refine VG (VO.alloc Z fun b9 => VG (VT (vs := resC x) (cs' := resC x) 0 Z Z Z Z (NR _) Z Z Z (VG (VN ?_))))
   refine xhm ?_
   refine VG (VO.ld 6 Z Z Z Z ?_)
   refine VG (VO.ld 6 Z Z Z Z ?_)
   refine VG (VO.ld 6 Z Z Z Z ?_)
   refine VG (VL 0 (resC x) Z Z Z Z ?_)
   refine VO.ent (L' := [nmH p C ca cc m n]) (Imp.ent (Imp.trans Imp.tl (Imp.nmB (n := n) Imp.nil))) ?_
   refine VG (VQ 0 (ψ := fun v H => H = nmH p C ca cc m (n.reply f.1.client f.1.seq f.1.try_ x)) Z (fun Fr w hF hs _ => nreply_spec Fr w yd _ _ _ hc0 hc1 x) Z ybi ?_)
   rintro _ _ rfl
   refine xgk ?_
   rw [← e]
   exact CR (Ret.void Z ER ⟨rfl, Z⟩)
  have h4 : ¬ ((0 : Int) = 0 ∧ 0 < l.1 ∧ f.1.seq = l.1) := fun h => by rw [hd.2 h.2] at h4; cases h4
  refine xfo ?_
  refine VG (VY 89 true Z Z ?_)
  refine xfo ?_
  refine CP (p := f.1.seq < l.1) Z (fun h5 => ?_) (fun h5 => ?_)
  ·refine xfn ?_
   exact done_ Z Z Z (by rw [jd, if_neg h1, if_neg h2, if_neg h3, if_neg h4, if_pos ⟨rfl, h5⟩])
  have h5 : ¬ ((0 : Int) = 0 ∧ f.1.seq < l.1) := fun h => h5 h.2
  refine xfo ?_
  refine VG (VY 97 true Z Z ?_)
  refine xne ?_
  refine xfo ?_
  refine CP (p := (4096 : Int) ≤ (n.log.length : Int)) Z (fun h6 => ?_) (fun h6 => ?_)
  ·refine xfn ?_
   exact done_ Z Z Z (by rw [jd, if_neg h1, if_neg h2, if_neg h3, if_neg h4, if_neg h5, if_pos ⟨rfl, by omega⟩])
  have h6 : ¬ ((0 : Int) = 0 ∧ 4096 ≤ n.log.length) := fun h => h6 yd
  refine xfo ?_
  refine CE (i := 0) (j := 0) Z (fun _ => ?_) (fun h => absurd Z h)
  refine CD (ts 0 6 (.only 6 (.take 7 .nil))) ym yq ?_
  refine xfr ?_
  refine xnn ?_
  refine VA.go (AQ 2 (ψ := fun v H => v = .int .i64 (raOffer n.adm f.1 now).1 ∧ H = radH y.ap C ca cc (raOffer n.adm f.1 now).2) Z (fun Fr w hF hs _ => roffer_spec Fr w ok.ra f now) Z Z yz (fun v H h => by rw [h.2]; exact yr) ?_)
  rintro _ _ ⟨rfl, rfl⟩
  refine xfc ?_
  obtain ⟨k1, k2⟩ := raOffer_same n.adm f.1 now
  refine ⟨raOffer n.adm f.1 now, ⟨by rw [NdM.update, jd, if_neg h1, if_neg h2, if_neg h3, if_neg h4, if_neg h5, if_neg h6, if_pos rfl], k1, k2⟩, sbZ, Imp.ent (Imp.nmB (n := { n with adm := (raOffer n.adm f.1 now).2 }) (y := y) Imp.refl)⟩
 rintro ⟨r, A⟩ ⟨hu, hA1, hA2⟩
 dsimp only at hu hA1 hA2 ⊢
 rw [hu]
 refine xdy ?_
 refine CE (i := r) (j := 0) Z (fun h1 => ?_) (fun h1 => CK ?_)
 ·exact CR (Ret.void Z (IP 0 Z Imp.nil).ent ⟨rfl, by rw [NdM.told, if_pos h1]⟩)
 refine VC.opn 0 Z (HOpn.nm p C ca cc m { n with adm := A }) ?_
 rintro y2 -
 show VC _ _ _ [pt p (nmCs C ca cc m { n with adm := A } y2) ndT, rlogH y2.lp n.log, radH y2.ap C ca cc A, rrdsH y2.rp n.rds, slH rsnT 30 y2.oa n.out.length y2.oc (flat sndC n.out), pt fb (fmc f) frT] _
 refine CS ?_
 refine VC.meetS (σ := AdmM) (fun _ => [(0, pV p), (4, pV fb), (6, .int .i64 r)]) (fun B => [nmH p C ca cc m { n with adm := B }, pt fb (fmc f) frT]) (fun B => n.told f.1 r A = NdM.refuse { n with adm := B } f.1 r) ?_ ?_
 rotate_left
 ·rintro B hB
  refine xlf ?_
  refine VG (VL 1 (fmc f) Z Z Z Z ?_)
  refine VG (VQ 0 (ψ := fun v H => H = nmH p C ca cc m (NdM.refuse { n with adm := B } f.1 r)) Z (fun Fr w hF hs _ => nrefuse_spec Fr w (by show n.out.length ≤ _; omega) f r hc0 hc1) Z ybi ?_)
  rintro _ _ rfl
  refine xgk ?_
  rw [hB]
  exact xnb
 refine xhm ?_
 refine xfo ?_
 by_cases h2 : r = 6
 ·refine VG (VY 115 false Z ycg ?_)
  refine xfo ?_
  refine xed ?_
  exact ⟨A, by rw [NdM.told, if_neg h1, if_neg (fun h => h.1 h2)], sbZ, Imp.ent (Imp.nmB (n := { n with adm := A }) (y := y2) Imp.refl)⟩
 refine VG (VY 115 true Z (by rw [bne_iff_ne]; exact h2) ?_)
 refine xfo ?_
 refine VC.condNE (i := r) (j := 10) Z (fun h3 => ?_) (fun h3 => CK ?_)
 rotate_left
 ·exact ⟨A, by rw [NdM.told, if_neg h1, if_neg (fun h => h.2 h3)], sbZ, Imp.ent (Imp.nmB (n := { n with adm := A }) (y := y2) Imp.refl)⟩
 refine VC.opn 2 Z (HOpn.rad y2.ap C ca cc A) ?_
 rintro sp -
 show VC _ _ _ [pt y2.ap (radCs C ca cc A sp) radT, rfH sp ca A.sch, pt p (nmCs C ca cc m { n with adm := A } y2) ndT, rlogH y2.lp n.log, rrdsH y2.rp n.rds, slH rsnT 30 y2.oa n.out.length y2.oc (flat sndC n.out), pt fb (fmc f) frT] _
 obtain ⟨B, hB⟩ : ∃ B, B = (A.barM f.1.client f.1.seq f.1.try_).2 := ⟨_, rfl⟩
 refine xjr ?_
 refine xjw ?_
 refine VA.go (AQ 0 (ψ := fun v H => H = pt y2.ap (radCs C ca cc B sp) radT) Z (fun Fr w hF hs _ => rbar_spec Fr w (ok.ra.cl.trans hA1.symm) (by rw [hA2]; exact ok.ra.marks) (by rw [hA1]; exact ok.ra.c6) f.1.client f.1.seq f.1.try_) Z Z yco (fun v H h => by rw [h]; exact yr) ?_)
 rintro _ _ rfl
 refine xfc ?_
 refine ⟨B, by rw [NdM.told, if_neg h1, if_pos ⟨h2, h3⟩, hB], sbZ, Imp.ent (Imp.nm (n := { n with adm := B }) y2 (IP 2 Z (IP 2 Z (Imp.rad (A := B) sp (IP 0 Z (IP 0 ?_ (pkZ [0, 0, 0])))))))⟩
 rw [hB, (barM_same _ _ _ _).2.2]; rfl
end
end Nd
namespace Nd
open Go Vg T Api Kv Ch Lg Rd Win Adm Sched Conf Rep Ref16 Rk
attribute [local irreducible] VO VC VA
section
variable {p : Nat} {C : ConfM} {ca : Option Addr} {cc : Nat} {m : MemP} {n : NdM} {y : NmS}
theorem NdOk.send (k : NdOk C n) (to : Int) (f : FrameM) : NdOk C (n.send to f) := ⟨k.ms, k.log, k.num, k.logc, k.ra, k.calls, k.d0, k.d1, k.s0, k.s1, k.w0, k.w1, k.rl, k.rc, k.rn0, k.rn1, k.rcl⟩
theorem NdOk.fin (k : NdOk C n) {j : Nat} (h : n.done + j ≤ n.log.length) : NdOk C (n.fin j) := ⟨k.ms, k.log, k.num, k.logc, k.ra, k.calls, by have := k.d0; show 0 ≤ n.done + j; omega, h, k.s0, k.s1, k.w0, k.w1, k.rl, k.rc, k.rn0, k.rn1, k.rcl⟩
theorem NdOk.finish (k : NdOk C n) : NdOk C n.finish := by
 unfold NdM.finish
 split
 ·exact k.fin (by have := k.d1; omega)
 ·exact k
theorem NdOk.greet (k : NdOk C n) : NdOk C (n.greet C) := by
 unfold NdM.greet; split
 ·exact k
 ·exact k.send _ _
theorem NdOk.base (k : NdOk C n) : NdOk C n.base := by
 unfold NdM.base; split
 ·exact k.send _ _
 ·exact k
theorem NdOk.whole (k : NdOk C n) (b : Bool) (s : Int) : NdOk C { n with whole := b, st := s } := ⟨k.ms, k.log, k.num, k.logc, k.ra, k.calls, k.d0, k.d1, k.s0, k.s1, k.w0, k.w1, k.rl, k.rc, k.rn0, k.rn1, k.rcl⟩
theorem NdOk.becomes (k : NdOk C n) : NdOk C n.becomes := by
 unfold NdM.becomes; split
 ·exact (k.whole true _).base
 ·exact k
theorem RaOk.bar {A : AdmM} (k : RaOk C A) (c s t : Int) : RaOk C (A.barM c s t).2 := by
 obtain ⟨h1, h2, h3⟩ := barM_same A c s t
 exact ⟨k.cl.trans h1.symm, h2.trans k.marks, by rw [h1]; exact k.c6, by rw [h3]; exact k.qs⟩
theorem RaOk.exp {A : AdmM} (k : RaOk C A) (now : Int) : RaOk C (raExp A now) := by
 obtain ⟨h1, h2, h3⟩ := barAll_same (A.sch.goneM now) (A.withSch (A.sch.expM now))
 refine ⟨k.cl.trans h1.symm, h2.trans k.marks, by rw [raExp, h1]; exact k.c6, ?_⟩
 rw [raExp, h3, ← k.qs]
 show (A.sch.cls.map (ClsM.expC now)).map ClsM.quantum = _
 rw [List.map_map]; rfl
theorem exp_calls2 {A : AdmM} (hC : A.Calls) (now : Int) : (raExp A now).Calls := by
 obtain ⟨h1, h2, h3⟩ := barAll_same (A.sch.goneM now) (A.withSch (A.sch.expM now))
 intro q hq f hf
 rw [raExp, h3] at hq
 have hq : q ∈ (A.sch.expM now).qs := hq
 rw [exp_qs] at hq
 obtain ⟨q0, hq0, rfl⟩ := List.mem_map.1 hq
 rw [raExp, h1]
 exact hC q0 hq0 f (List.mem_filter.1 hf).1
theorem gone_client {A : AdmM} (h6 : A.clients ≤ 6) (hC : A.Calls) {now : Int} {f : FrameM} (hf : f ∈ A.sch.goneM now) : 0 ≤ f.client ∧ f.client < 6 := by
 obtain ⟨c, hc, hf⟩ := List.mem_flatMap.1 hf
 have := (hC c.q (List.mem_map.2 ⟨c, hc, rfl⟩) f (List.mem_filter.1 hf).1).1
 omega
def bigT : Int := 1099511627777
def NdM.refs (n : NdM) (gs : List FrameM) (r : Int) : NdM := { n with out := n.out ++ gs.map fun f => (32 + f.client, refuseF n.ch.epoch f r) }
theorem refs_nil (n : NdM) (r : Int) : n.refs [] r = n := by unfold NdM.refs; simp
theorem refs_snoc (n : NdM) (gs : List FrameM) (f : FrameM) (r : Int) : n.refs (gs ++ [f]) r = (n.refs gs r).refuse f r := by
 unfold NdM.refs NdM.refuse NdM.send
 simp
theorem NdOk.refs (k : NdOk C n) (gs : List FrameM) (r : Int) : NdOk C (n.refs gs r) := ⟨k.ms, k.log, k.num, k.logc, k.ra, k.calls, k.d0, k.d1, k.s0, k.s1, k.w0, k.w1, k.rl, k.rc, k.rn0, k.rn1, k.rcl⟩
def NdM.ent1 (n : NdM) : NdM := { n with adm := raExp n.adm bigT, rds := { n.rds with l := [] } }
def NdM.ent2 (n : NdM) (c : ChM) : NdM := if (sinceOf c n.id).2 = false then { n with whole := false } else if (sinceOf c n.id).1 ≠ n.since then { n with log := [], done := 0, whole := false } else n
def NdM.ent3 (n : NdM) (c : ChM) : NdM := { n with ch := c, since := (sinceOf c n.id).1, linked := false, have_ := 0, bs := -1, st := n.log.length, sent := n.log.length, limit := 0 }
def NdM.ent4 (n : NdM) (c : ChM) : NdM := (((n.ent1.ent2 c).ent3 c).refs (n.adm.sch.goneM bigT) 9).refs (n.rds.l.map RdM.f) 9
def NdM.enter (C : ConfM) (n : NdM) (c : ChM) : NdM := (((n.ent4 c).finish).greet C).base.alive
theorem NdOk.ent1 (k : NdOk C n) : NdOk C n.ent1 := ⟨k.ms, k.log, k.num, k.logc, k.ra.exp _, exp_calls2 k.calls _, k.d0, k.d1, k.s0, k.s1, k.w0, k.w1, by show 0 ≤ 16; omega, k.rc, k.rn0, k.rn1, fun x hx => by cases hx⟩
theorem NdOk.ent3 (k : NdOk C n) {c : ChM} (hc : c.ms.length ≤ 1000) : NdOk C ((n.ent2 c).ent3 c) := by
 unfold NdM.ent2
 split
 ·exact xno
 split
 ·exact ⟨hc, by show 0 ≤ 4096; omega, (by intro i e h; simp [NdM.ent3] at h), (by intro e h; cases h), k.ra, k.calls, Int.le_refl _, Int.le_refl _, Int.le_refl _, Int.le_refl _, k.w0, k.w1, k.rl, k.rc, k.rn0, k.rn1, k.rcl⟩
 ·exact xno
def backV (h l : Int) : Int := if 0 < if l < h then l else h then if l < h then l else h else 0
theorem backV_eq (h l : Int) : backV h l = max 0 (min h l) := by unfold backV; split <;> split <;> omega
def NdM.back (n : NdM) : NdM := { n with sent := backV n.have_ n.log.length }
theorem nback_spec : Tri Tryz.prog 107 [.pointer (some ⟨p, 0, none⟩)] Fr w [nmH p C ca cc m n]
  (fun v L => v = .tuple #[] ∧ L = [nmH p C ca cc m n.back]) := by
 refine TF 13 Tryz.func107 Z ym tabOk Z Z ?_
 refine xnc ?_
 rintro y -
 show VC _ _ _ [pt p (nmCs C ca cc m n y) ndT, rlogH y.lp n.log, radH y.ap C ca cc n.adm, rrdsH y.rp n.rds, slH rsnT 30 y.oa n.out.length y.oc (flat sndC n.out)] _
 refine CD (ts 0 6 (.only 6 (ts 7 4 (.only 11 .nil)))) ym yq ?_
 refine xeh ?_
 refine xnf ?_
 refine xeh ?_
 refine VA.go (VA.st 0 (cs' := nmCs C ca cc m n.back y) Z Z Z Z Z ycp Z Z yr (VA.go (AN ?_)))
 exact Ret.void Z (Imp.ent (Imp.nmB (n := n.back) (y := y) Imp.nil)) ⟨rfl, Z⟩
theorem sub_row {r : RL RdR} (h : r.Ok rdC 34) {k : Nat} {x : RdR} (hx : r.xs[k]? = some x) : ∃ b off, r.blk = some b ∧ r.addr = some ⟨b, off, none⟩ ∧
  ∀ {X : Cx} {L : List HP} (i : Nat), L[i]? = some (r.h rrdT) → (∀ ti : TI, 29 = ti.size → ti.und.agg = true → RdL X L ti b (off + k * 34 + 1) (.agg (fgC x.1.f x.2).toArray)) ∧ (∀ ti : TI, 4 = ti.size → ti.und.agg = true → RdL X L ti b (off + k * 34 + 30) (.agg (resC x.1.r).toArray)) := by
 obtain ⟨b, off, h1, h2, h3⟩ := h.nth hx
 refine ⟨b, off, h1, h2, fun {X L} i hL => ?_⟩
 rw [RL.h_pt h1] at hL
 refine ⟨fun ti hn ha => RdL.many i hL ?_ (by rw [← hn]; rfl) ha, fun ti hn ha => RdL.many i hL ?_ (by rw [← hn]; rfl) ha⟩
 ·rw [← hn]
  have : ((rdC x).drop 1).take 29 = fgC x.1.f x.2 := rfl
  rw [← h3, List.drop_take, List.take_take, List.drop_drop] at this
  exact this
 ·rw [← hn]
  have : ((rdC x).drop 30).take 4 = resC x.1.r := rfl
  rw [← h3, List.drop_take, List.take_take, List.drop_drop] at this
  exact this
theorem since_zero {c : ChM} {i : Int} (h : (sinceOf c i).2 = false) : (sinceOf c i).1 = 0 := by
 unfold sinceOf at h ⊢
 split at h
 ·cases h
 ·rename_i h2; rw [if_neg h2]
theorem ent2_id (n : NdM) (c : ChM) : (n.ent2 c).id = n.id ∧ (n.ent2 c).out = n.out ∧ (n.ent2 c).ch = n.ch := by
 unfold NdM.ent2
 split
 ·exact ⟨rfl, Z, Z⟩
 split <;> exact ⟨rfl, rfl, rfl⟩
theorem nenter_spec (ok : NdOk C n) (ho : n.out.length ≤ 1000000) {c : ChM} {m2 : MemP} (hm2 : RwIn memC 2 Fr w m2.1 c.ms) (hc : c.ms.length ≤ 1000) : Tri Tryz.prog 116 [.pointer (some ⟨p, 0, none⟩), .agg (c.cells m2.1 m2.2).toArray] Fr w [nmH p C ca cc m n]
  (fun v L => v = .tuple #[] ∧ L = [nmH p C ca cc m2 (n.enter C c)]) := by
 have hrl := ok.rl; have hlg := ok.log
 refine TF 113 Tryz.func116 Z ym tabOk Z Z ?_
 refine CS (CG (VG (VB (vs := c.cells m2.1 m2.2) Z fun cb => VG (VN ?_))))
 refine xmy ?_
 rintro y -
 show VC _ _ _ [pt p (nmCs C ca cc m n y) ndT, rlogH y.lp n.log, radH y.ap C ca cc n.adm, rrdsH y.rp n.rds, slH rsnT 30 y.oa n.out.length y.oc (flat sndC n.out), pt cb (c.cells m2.1 m2.2) chT] _
 refine CS ?_
 refine VC.meetS (σ := RL FM × RL RdR) (fun s => [(0, pV p), (3, pV cb), (4, .slice s.1.addr s.1.xs.length s.1.cap), (5, .slice s.2.addr s.2.xs.length s.2.cap)]) (fun s => [nmH p C ca cc m n.ent1, s.1.h frT, s.2.h rrdT, pt cb (c.cells m2.1 m2.2) chT]) (fun s => s.1.Ok fmc 29 ∧ s.1.xs.map Prod.fst = n.adm.sch.goneM bigT ∧ s.1.xs.length ≤ 64 ∧ s.2.Ok rdC 34 ∧ s.2.xs.map Prod.fst = n.rds.l) ?_ ?_
 ·refine CD (ts 0 4 (ts 5 4 (.only 4 (.only 9 (ts 10 2 .nil))))) ym yq ?_
  refine xeh ?_
  refine VA.ent (L' := [radH y.ap C ca cc n.adm, pt p (nmCs C ca cc m n y) ndT, rlogH y.lp n.log, rrdsH y.rp n.rds, slH rsnT 30 y.oa n.out.length y.oc (flat sndC n.out), pt cb (c.cells m2.1 m2.2) chT]) (IP 2 Z Imp.refl).ent ?_
  refine VA.go (AO (OC (Lc := [radH y.ap C ca cc n.adm]) Z (.refl _) (fun Fr w hF hs hS => rflush_spec Fr w ok.ra)) Z ?_ ?_)
  ·rintro _ _ ⟨_, ⟨r, hok, hrx, h64, rfl, rfl⟩, rfl⟩
   exact yr
  rintro _ _ ⟨_, ⟨r, hok, hrx, h64, rfl, rfl⟩, rfl⟩
  refine VA.ent (L' := [rrdsH y.rp n.rds, r.h frT, radH y.ap C ca cc (raExp n.adm bigT), pt p (nmCs C ca cc m n y) ndT, rlogH y.lp n.log, slH rsnT 30 y.oa n.out.length y.oc (flat sndC n.out), pt cb (c.cells m2.1 m2.2) chT]) (IP 4 Z Imp.refl).ent ?_
  refine VA.go (AO (OC (Lc := [rrdsH y.rp n.rds]) Z (.refl _) (fun Fr w hF hs hS => rrflush_spec Fr w)) Z ?_ ?_)
  ·rintro _ _ ⟨_, ⟨r2, hok2, hrx2, rfl, rfl⟩, rfl⟩
   exact yr
  rintro _ _ ⟨_, ⟨r2, hok2, hrx2, rfl, rfl⟩, rfl⟩
  refine xfc ?_
  exact ⟨(r, r2), ⟨hok, hrx, h64, hok2, hrx2⟩, sbZ, Imp.ent (Imp.nm (n := n.ent1) y (pkZ [4, 4, 3, 1, 2, 1, 0, 0]))⟩
 rintro ⟨r, r2⟩ ⟨hok, hrx, h64, hok2, hrx2⟩
 dsimp only at hok hrx h64 hok2 hrx2 ⊢
 have ok1 := ok.ent1
 obtain ⟨n1, hn1⟩ : ∃ n1, n1 = n.ent1 := ⟨_, rfl⟩
 have hid : n1.id = n.id := by rw [hn1]; rfl
 have ho1 : n1.out = n.out := by rw [hn1]; rfl
 have hen : n.enter C c = (((((n1.ent2 c).ent3 c).refs (n.adm.sch.goneM bigT) 9).refs (n.rds.l.map RdM.f) 9).finish.greet C).base.alive := by rw [NdM.enter, NdM.ent4, hn1]
 rw [← hn1] at ok1 ⊢
 have ok3 := ok1.ent3 hc
 refine VC.opn 0 Z (HOpn.nm p C ca cc m n1) ?_
 rintro y -
 show VC _ _ _ [pt p (nmCs C ca cc m n1 y) ndT, rlogH y.lp n1.log, radH y.ap C ca cc n1.adm, rrdsH y.rp n1.rds, slH rsnT 30 y.oa n1.out.length y.oc (flat sndC n1.out), r.h frT, r2.h rrdT, pt cb (c.cells m2.1 m2.2) chT] _
 refine CS (CD (ts 0 5 (.only 5 (ts 6 5 .nil))) ym yq ?_)
 refine VA.go (VA.ldA 7 (c.cells m2.1 m2.2) Z Z Z Z Z ?_)
 refine xeh ?_
 refine VA.go (AR (fun Fr w hF hs hS => rsince_spec Fr w (c := c) (RwIn.of hm2 hF hs) yd n1.id) Z Z yr ?_)
 refine xfc ?_
 refine CS ?_
 refine VC.meetS (σ := Unit) (fun _ => [(0, pV p), (3, pV cb), (4, .slice r.addr r.xs.length r.cap), (5, .slice r2.addr r2.xs.length r2.cap), (6, .int .i64 (sinceOf c n1.id).1)]) (fun _ => [nmH p C ca cc m (n1.ent2 c), r.h frT, r2.h rrdT, pt cb (c.cells m2.1 m2.2) chT]) (fun _ => True) ?_ ?_
 ·refine xdy ?_
  refine CC Z (fun h1 => ?_) (fun h1 => ?_)
  ·have h1 : (sinceOf c n1.id).2 = false := by simpa using h1
   have e : n1.ent2 c = { n1 with whole := false } := by rw [NdM.ent2, if_pos h1]
   refine xdy ?_
   refine VG (VO.st 0 (cs' := nmCs C ca cc m { n1 with whole := false } y) Z Z Z Z ycd Z Z ?_)
   refine xgk ?_
   exact ⟨(), trivial, SC Z (SC Z (SC Z (SC Z (SC (by rw [since_zero h1]; rfl) (SN _))))), by rw [e]; exact Imp.ent (Imp.nmB (n := { n1 with whole := false }) (y := y) Imp.refl)⟩
  have h1 : ¬ (sinceOf c n1.id).2 = false := by simpa using h1
  refine xdy ?_
  refine VC.condNE (i := (sinceOf c n1.id).1) (j := n1.since) Z (fun h2 => ?_) (fun h2 => CK ?_)
  rotate_left
  ·have e : n1.ent2 c = n1 := by rw [NdM.ent2, if_neg h1, if_neg (fun h => h h2)]
   exact ⟨(), trivial, sbZ, by rw [e]; exact Imp.ent (Imp.nmB (n := n1) (y := y) Imp.refl)⟩
  have e : n1.ent2 c = { n1 with log := [], done := 0, whole := false } := by rw [NdM.ent2, if_neg h1, if_pos h2]
  refine CG ?_
  refine xel ?_
  refine VG (VK (Lc := []) (fun Fr w hF hs hS => rlnew_spec Fr w) Z Z ?_)
  rintro _ _ ⟨q, rfl, rfl⟩
  refine VG (VO.st 1 (cs' := nmCs C ca cc m n1 ⟨q, y.ap, y.rp, y.oa, y.oc⟩) Z Z Z Z (by show 20 < 29; omega) Z Z ?_)
  refine VG (VO.st 1 (cs' := nmCs C ca cc m { n1 with done := 0 } ⟨q, y.ap, y.rp, y.oa, y.oc⟩) Z Z Z Z yck Z Z ?_)
  refine VG (VO.st 1 (cs' := nmCs C ca cc m { n1 with done := 0, whole := false } ⟨q, y.ap, y.rp, y.oa, y.oc⟩) Z Z Z Z ycd Z Z ?_)
  refine xgk ?_
  exact ⟨(), trivial, sbZ, by rw [e]; exact Imp.ent (Imp.nm (n := { n1 with log := [], done := 0, whole := false }) ⟨q, y.ap, y.rp, y.oa, y.oc⟩ (IP 1 Z (IP 0 Z (IP 1 Z (IP 1 Z (IP 1 Z Imp.tl))))))⟩
 rintro _ -
 obtain ⟨i1, i2, i3⟩ := ent2_id n1 c
 obtain ⟨n2, hn2⟩ : ∃ n2, n2 = n1.ent2 c := ⟨_, rfl⟩
 rw [← hn2] at ok3 i1 i2 i3 hen ⊢
 refine VC.opn 0 Z (HOpn.nm p C ca cc m n2) ?_
 rintro y -
 show VC _ _ _ [pt p (nmCs C ca cc m n2 y) ndT, rlogH y.lp n2.log, radH y.ap C ca cc n2.adm, rrdsH y.rp n2.rds, slH rsnT 30 y.oa n2.out.length y.oc (flat sndC n2.out), r.h frT, r2.h rrdT, pt cb (c.cells m2.1 m2.2) chT] _
 refine zro ?_
 refine VG (VL 7 (c.cells m2.1 m2.2) Z Z Z Z ?_)
 refine VG (VT 0 (vs := c.cells m2.1 m2.2) (cs' := nmCs C ca cc m2 { n2 with ch := c } y) Z Z Z Z (by show 16 ≤ 29; omega) Z Z Z ?_)
 refine VG (VO.st 0 (cs' := nmCs C ca cc m2 { n2 with ch := c, since := (sinceOf c n1.id).1 } y) Z Z Z Z (by show 16 < 29; omega) Z Z ?_)
 refine xgk ?_
 show VC _ _ _ _ _
 refine zro ?_
 refine VG (VV (fun Fr w hF hs hS => nlast_spec (n := { n2 with ch := c, since := (sinceOf c n1.id).1 }) Fr w (NmIn.pcs hS 0 Z Z Z Z)) Z ?_)
 refine VG (VO.st 0 (cs' := nmCs C ca cc m2 { n2 with ch := c, since := (sinceOf c n1.id).1, linked := false } y) Z Z Z Z (by show 27 < 29; omega) Z Z ?_)
 refine VG (VO.st 0 (cs' := nmCs C ca cc m2 { n2 with ch := c, since := (sinceOf c n1.id).1, linked := false, have_ := 0 } y) Z Z Z Z yaf Z Z ?_)
 refine VG (VO.st 0 (cs' := nmCs C ca cc m2 { n2 with ch := c, since := (sinceOf c n1.id).1, linked := false, have_ := 0, bs := -1 } y) Z Z Z Z (by show 19 < 29; omega) Z Z ?_)
 refine VG (VO.st 0 (cs' := nmCs C ca cc m2 { n2 with ch := c, since := (sinceOf c n1.id).1, linked := false, have_ := 0, bs := -1, st := n2.log.length } y) Z Z Z Z (by show 18 < 29; omega) Z Z ?_)
 refine xgk ?_
 show VC _ _ _ _ _
 refine zro ?_
 refine VG (VV (fun Fr w hF hs hS => nlast_spec (n := { n2 with ch := c, since := (sinceOf c n1.id).1, linked := false, have_ := 0, bs := -1, st := n2.log.length }) Fr w (NmIn.pcs hS 0 Z Z Z Z)) Z ?_)
 refine VG (VO.st 0 (cs' := nmCs C ca cc m2 { n2 with ch := c, since := (sinceOf c n1.id).1, linked := false, have_ := 0, bs := -1, st := n2.log.length, sent := n2.log.length } y) Z Z Z Z ycp Z Z ?_)
 obtain ⟨n3, hn3⟩ : ∃ n3, n3 = n2.ent3 c := ⟨_, rfl⟩
 have en3 : ({ n2 with ch := c, since := (sinceOf c n1.id).1, linked := false, have_ := 0, bs := -1, st := n2.log.length, sent := n2.log.length, limit := 0 } : NdM) = n3 := by rw [hn3, NdM.ent3, i1]
 refine VG (VO.st 0 (cs' := nmCs C ca cc m2 n3 y) Z Z Z Z (by show 23 < 29; omega) ycq Z ?_)
 refine xgk ?_
 show VC _ _ _ _ _
 refine CN (L' := [nmH p C ca cc m2 n3, r.h frT, r2.h rrdT, pt cb (c.cells m2.1 m2.2) chT]) (Imp.ent (Imp.nm (n := n3) y (IP 0 Z (IP 0 ycq (IP 0 ycq (IP 0 ycq (IP 0 ycq Imp.refl))))))) ?_
 rw [← hn3] at ok3 hen
 have ho3 : n3.out = n.out := by rw [← en3]; show n2.out = _; rw [i2, ho1]
 have hch3 : n3.ch = c := by rw [← en3]
 obtain ⟨gs, hgs⟩ : ∃ gs, gs = n.adm.sch.goneM bigT := ⟨_, rfl⟩
 obtain ⟨ws, hws⟩ : ∃ ws, ws = n.rds.l.map RdM.f := ⟨_, rfl⟩
 rw [← hgs] at hrx hen
 rw [← hws] at hen
 have hgl : r.xs.length = gs.length := by rw [← hrx, List.length_map]
 have hwl : r2.xs.length = ws.length := by rw [hws, ← hrx2, List.length_map, List.length_map]
 have hwl2 : ws.length ≤ 16 := by rw [hws, List.length_map]; exact hrl
 have gcl : ∀ f ∈ gs, 0 ≤ f.client ∧ f.client < 6 := fun f hf => gone_client ok.ra.c6 ok.calls (by rw [← hgs]; exact hf)
 have wcl : ∀ f ∈ ws, 0 ≤ f.client ∧ f.client ≤ 1000 := fun f hf => by
  rw [hws] at hf
  obtain ⟨x, hx, rfl⟩ := List.mem_map.1 hf
  exact ok.rcl x hx
 have hrl1 : ∀ (N : NdM) (l : List FrameM) (z : Int), (N.refs l z).out.length = N.out.length + l.length := fun N l z => by unfold NdM.refs; simp
 refine CS ?_
 refine VC.meetS (σ := Unit) (fun _ => [(0, pV p), (5, .slice r2.addr r2.xs.length r2.cap)]) (fun _ => [nmH p C ca cc m2 (n3.refs gs 9), r2.h rrdT]) (fun _ => True) ?_ ?_
 ·refine xep ?_
  show VC _ _ _ _ _
  refine xjt ?_
  refine VC.loop (σ := Nat) (fun i => [(0, pV p), (4, .slice r.addr r.xs.length r.cap), (5, .slice r2.addr r2.xs.length r2.cap), (8, .int .i64 i)]) (fun i => [nmH p C ca cc m2 (n3.refs (gs.take i) 9), r.h frT, r2.h rrdT]) (fun i => i ≤ r.xs.length) (fun i => r.xs.length - i) 0
   (Nat.zero_le _) sbZ (by show Ent _ _ [nmH p C ca cc m2 (n3.refs [] 9), r.h frT, r2.h rrdT]; rw [refs_nil]; exact (pkZ [0, 0, 0]).ent) ?_
  rintro i hi
  refine xlf ?_
  refine CP (p := (i : Int) < (r.xs.length : Int)) Z (fun h1 => CK ?_) (fun h1 => CX ?_)
  rotate_left
  ·have : i = gs.length := by omega
   subst this
   rw [List.take_length]
   exact ⟨(), trivial, sbZ, (pkZ [0, 1]).ent⟩
  have h1 : i < r.xs.length := by omega
  obtain ⟨x, hx⟩ : ∃ x, r.xs[i]? = some x := ⟨_, GE h1⟩
  have hxl : gs[i]? = some x.1 := by rw [← hrx, List.getElem?_map, hx]; rfl
  have htk : gs.take (i + 1) = gs.take i ++ [x.1] := by rw [List.take_add_one, hxl]; rfl
  have hxc := gcl x.1 (ME hxl)
  obtain ⟨tb, tof, htb, hta, hrd⟩ := RL.Ok.ld (t := frT) hok hx (fmc_len x)
  rw [hta]
  refine zqx ?_
  refine xmn ?_
  refine xkb ?_
  refine VG (VQ 0 (ψ := fun v H => H = nmH p C ca cc m2 ((n3.refs (gs.take i) 9).refuse x.1 9)) Z (fun Fr w hF hs _ => nrefuse_spec Fr w (by rw [hrl1, ho3, List.length_take]; omega) x 9 yd yd) Z ybi ?_)
  rintro _ _ rfl
  refine xgk ?_
  rw [← hta, ← refs_snoc, ← htk]
  show VC _ _ _ _ _
  refine zpm ?_
  exact xnp
 rintro _ -
 obtain ⟨n4, hn4⟩ : ∃ n4, n4 = n3.refs gs 9 := ⟨_, rfl⟩
 have ok4 := ok3.refs gs 9
 have ho4 : n4.out.length = n.out.length + gs.length := by rw [hn4, hrl1, ho3]
 have hch4 : n4.ch = c := by rw [hn4]; exact hch3
 rw [← hn4] at hen ok4 ⊢
 refine CS ?_
 refine VC.meetS (σ := Unit) (fun _ => [(0, pV p)]) (fun _ => [nmH p C ca cc m2 (n4.refs ws 9)]) (fun _ => True) ?_ ?_
 ·refine xep ?_
  show VC _ _ _ _ _
  refine xjt ?_
  refine VC.loop (σ := Nat) (fun i => [(0, pV p), (5, .slice r2.addr r2.xs.length r2.cap), (9, .int .i64 i)]) (fun i => [nmH p C ca cc m2 (n4.refs (ws.take i) 9), r2.h rrdT]) (fun i => i ≤ r2.xs.length) (fun i => r2.xs.length - i) 0
   (Nat.zero_le _) sbZ (by show Ent _ _ [nmH p C ca cc m2 (n4.refs [] 9), r2.h rrdT]; rw [refs_nil]; exact ER) ?_
  rintro i hi
  refine xlf ?_
  refine CP (p := (i : Int) < (r2.xs.length : Int)) Z (fun h1 => CK ?_) (fun h1 => CX ?_)
  rotate_left
  ·have : i = ws.length := by omega
   subst this
   rw [List.take_length]
   exact ⟨(), trivial, sbZ, (IP 0 Z Imp.nil).ent⟩
  have h1 : i < r2.xs.length := by omega
  obtain ⟨x, hx⟩ : ∃ x, r2.xs[i]? = some x := ⟨_, GE h1⟩
  have hxl : ws[i]? = some x.1.f := by rw [hws, ← hrx2, List.getElem?_map, List.getElem?_map, hx]; rfl
  have htk : ws.take (i + 1) = ws.take i ++ [x.1.f] := by rw [List.take_add_one, hxl]; rfl
  have hxc := wcl x.1.f (ME hxl)
  obtain ⟨tb, tof, htb, hta, hrd⟩ := sub_row hok2 hx
  rw [hta]
  refine zqx ?_
  refine xmn ?_
  refine xlf ?_
  refine xkb ?_
  refine VG (VQ 0 (ψ := fun v H => H = nmH p C ca cc m2 ((n4.refs (ws.take i) 9).refuse x.1.f 9)) Z (fun Fr w hF hs _ => nrefuse_spec Fr w (by rw [hrl1, ho4, List.length_take]; omega) (x.1.f, x.2) 9 ycr ycs) Z ybi ?_)
  rintro _ _ rfl
  refine xgk ?_
  rw [← hta, ← refs_snoc, ← htk]
  show VC _ _ _ _ _
  refine zpm ?_
  exact xnp
 rintro _ -
 obtain ⟨n5, hn5⟩ : ∃ n5, n5 = n4.refs ws 9 := ⟨_, rfl⟩
 have ok5 := ok4.refs ws 9
 have ho5 : n5.out.length ≤ 1000100 := by rw [hn5, hrl1, ho4]; omega
 have hch5 : n5.ch = c := by rw [hn5]; exact hch4
 rw [← hn5] at hen ok5 ⊢
 have fch : n5.finish.ch = c := by unfold NdM.finish; split <;> exact hch5
 have gch : (n5.finish.greet C).ch = c := by unfold NdM.greet; split <;> exact fch
 have fl : n5.finish.out.length ≤ 2000000 := by
  have := ok5.log; have := ok5.d0
  unfold NdM.finish
  split
  ·unfold NdM.fin; simp; omega
  ·omega
 have gl : (n5.finish.greet C).out.length ≤ 2000001 := by unfold NdM.greet; split; omega; (unfold NdM.send; simp; omega)
 have bl : (n5.finish.greet C).base.out.length ≤ 2000002 := by unfold NdM.base; split; (unfold NdM.send; simp; omega); omega
 rw [hen]
 refine xhm ?_
 refine VG (VQ 0 (ψ := fun v H => H = nmH p C ca cc m2 n5.finish) Z (fun Fr w hF hs _ => nfinish_spec Fr w ok5 (by rw [hch5]; exact RwIn.of hm2 hF hs) yd) Z ybi ?_)
 rintro _ _ rfl
 refine xgk ?_
 show VC _ _ _ _ _
 refine xhm ?_
 refine VG (VQ 0 (ψ := fun v H => H = nmH p C ca cc m2 (n5.finish.greet C)) Z (fun Fr w hF hs _ => ngreet_spec Fr w ok5.finish (by rw [fch]; exact RwIn.of hm2 hF hs) yd) Z ybi ?_)
 rintro _ _ rfl
 refine xgk ?_
 show VC _ _ _ _ _
 refine xhm ?_
 refine VG (VQ 0 (ψ := fun v H => H = nmH p C ca cc m2 (n5.finish.greet C).base) Z (fun Fr w hF hs _ => nbase_spec Fr w (by rw [gch]; exact hc) (by rw [gch]; exact RwIn.of hm2 hF hs) yd) Z ybi ?_)
 rintro _ _ rfl
 refine xgk ?_
 show VC _ _ _ _ _
 refine CG ?_
 refine VG (VQ 0 (ψ := fun v H => H = nmH p C ca cc m2 (n5.finish.greet C).base.alive) Z (fun Fr w hF hs _ => nalive_spec Fr w yd) Z ybi ?_)
 rintro _ _ rfl
 refine xgk ?_
 exact xeo
end
end Nd
namespace Nd
open Go Vg T Api Kv Ch Lg Rd Win Adm Sched Conf Rep Ref16 Rk
attribute [local irreducible] VO VC VA
section
variable {p : Nat} {C : ConfM} {ca : Option Addr} {cc : Nat} {m : MemP} {n : NdM} {y : NmS}
def nmC0 (C : ConfM) (ca : Option Addr) (cc : Nat) (m : MemP) (n : NdM) (y : NmS) (on : Nat) : List Value := C.cells ca cc ++ (.int .i64 n.id :: (n.ch.cells m.1 m.2 ++ [.int .i64 n.since, .bool n.whole, .int .i64 n.st, .int .i64 n.bs, .pointer (some ⟨y.lp, 0, none⟩), .int .i64 n.done, .int .i64 n.sent, .int .i64 n.limit, .int .i64 n.have_, .pointer (some ⟨y.ap, 0, none⟩), .pointer (some ⟨y.rp, 0, none⟩), .bool n.linked, .slice y.oa on y.oc]))
def nmL0 (p : Nat) (C : ConfM) (ca : Option Addr) (cc : Nat) (m : MemP) (n : NdM) (x : NmS × Nat) : List HP := [pt p (nmC0 C ca cc m n x.1 x.2) ndT, rlogH x.1.lp n.log, radH x.1.ap C ca cc n.adm, rrdsH x.1.rp n.rds]
def nm0 (p : Nat) (C : ConfM) (ca : Option Addr) (cc : Nat) (m : MemP) (n : NdM) : HP := hex fun x => hsep (nmL0 p C ca cc m n x)
theorem HOpn.nm0 (p : Nat) (C : ConfM) (ca : Option Addr) (cc : Nat) (m : MemP) (n : NdM) : HOpn (ι := NmS × Nat) (nm0 p C ca cc m n) (fun _ => True) (fun x => nmL0 p C ca cc m n x) := fun w ids ⟨x, h⟩ hn => ⟨x, trivial, ids, h, hn, fun _ h => h⟩
theorem Imp.nm0 {L M : List HP} (x : NmS × Nat) (h : Imp L (nmL0 p C ca cc m n x ++ M)) : Imp L (nm0 p C ca cc m n :: M) :=
 Imp.ex (f := fun x => hsep (nmL0 p C ca cc m n x)) x (Imp.sep (Ls := nmL0 p C ca cc m n x) h)
def sentN (S : List SndM) (v : Value) (L : List HP) (H : List HP) : Prop := ∃ a c, v = .slice a S.length c ∧ L = H ++ [slH rsnT 30 a S.length c (flat sndC S)]
def nowV (now : Int) : Int := if now < 0 then 0 else now
def mxV (a b : Int) : Int := if a < b then b else a
def mnV (a b : Int) : Int := if b < a then b else a
def NdM.own (n : NdM) (from_ : Int) (f : FrameM) : Bool := decide (0 ≤ from_) && ((f.epoch == n.ch.epoch) && decide (0 ≤ n.place))
def NdM.fwdOk (C : ConfM) (n : NdM) (e : EntryM) : Prop := e.index = n.log.length + 1 ∧ n.log.length - n.done < C.window ∧ n.log.length < 4096
instance (C : ConfM) (n : NdM) (e : EntryM) : Decidable (n.fwdOk C e) := by unfold NdM.fwdOk; infer_instance
def NdM.fwd1 (C : ConfM) (n : NdM) (e : EntryM) : NdM := if n.fwdOk C e ∧ logErr n.log e = 0 then NdM.becomes (NdM.finish { n with log := n.log ++ [e] }) else n
def NdM.forward (C : ConfM) (n : NdM) (e : EntryM) : NdM := (n.fwd1 C e).greet C
def NdM.ack1 (n : NdM) (f : FrameM) : NdM := if n.linked then { n with have_ := mxV n.have_ f.have_ } else NdM.back { n with linked := true, have_ := f.have_ }
def NdM.ack2 (n : NdM) (f : FrameM) : NdM := { n.ack1 f with limit := mxV (n.ack1 f).limit (mnV f.grant 4112) }
def NdM.ackN (C : ConfM) (n : NdM) (f : FrameM) : NdM := if (n.ack2 f).ackB f.index then ((n.ack2 f).ack f.index).greet C else n.ack2 f
def NdM.sure (n : NdM) (i : Int) : NdM := { n with rds := { n.rds with l := n.rds.l.drop (rsure i n.rds) }, out := n.out ++ (n.rds.l.take (rsure i n.rds)).map fun x => (32 + x.f.client, replyF x.f.client x.f.seq x.f.try_ x.r) }
def NdM.enters (n : NdM) (from_ : Int) (f : FrameM) (ms : List MemM) : Prop := f.kind = 8 ∧ from_ = 16 ∧ n.ch.epoch < f.cepoch ∧ chE (frCh f ms) = 0
instance (n : NdM) (from_ : Int) (f : FrameM) (ms : List MemM) : Decidable (n.enters from_ f ms) := by unfold NdM.enters; infer_instance
def NdM.take0 (C : ConfM) (n : NdM) (from_ : Int) (f : FrameM) (ms : List MemM) (now : Int) : NdM :=
 if f.kind = 1 then (if f.client < 0 ∨ C.clients ≤ f.client then n else if readsM f.op = true then n.read f now else n.update f now)
 else if f.kind = 8 then (if n.enters from_ f ms then n.enter C (frCh f ms) else n)
 else if f.kind = 4 then (if n.own from_ f = true ∧ from_ = n.ahead then n.forward C f.entry else n)
 else if f.kind = 5 then (if n.own from_ f = true ∧ from_ = n.next then n.ackN C f else n)
 else if f.kind = 6 then (if n.own from_ f = true ∧ from_ = n.ahead then NdM.becomes { n with bs := f.index } else n)
 else if f.kind = 10 then (if n.own from_ f = true ∧ from_ = 16 then n.sure f.index else n)
 else n
def NdM.take (C : ConfM) (n : NdM) (from_ : Int) (f : FrameM) (ms : List MemM) (now : Int) : NdM := NdM.take0 C { n with out := [] } from_ f ms (nowV now)
theorem NdOk.logApp (k : NdOk C n) {e : EntryM} (hl : n.log.length < 4096) (he : logErr n.log e = 0) : NdOk C { n with log := n.log ++ [e] } := by
 have hlen : (n.log ++ [e]).length = n.log.length + 1 := by simp
 have hcl : 0 ≤ e.client ∧ e.client < 6 := by
  have hb : badE e = false := by
   cases h : badE e with
   | false => rfl
   | true => rw [logErr, if_pos h] at he; cases he
  simp only [badE, Bool.or_eq_false_iff, decide_eq_false_iff_not] at hb
  omega
 refine ⟨k.ms, by show (n.log ++ [e]).length ≤ 4096; omega, log_num k.num he, ?_, k.ra, k.calls, k.d0, ?_, k.s0, ?_, k.w0, k.w1, k.rl, k.rc, k.rn0, k.rn1, k.rcl⟩
 ·intro x hx
  rcases List.mem_append.1 hx with hx | hx
  ·exact k.logc x hx
  ·obtain rfl : x = e := by simpa using hx
   exact hcl
 ·have := k.d1; show n.done ≤ ((n.log ++ [e]).length : Int); omega
 ·have := k.s1; show n.sent ≤ ((n.log ++ [e]).length : Int); omega
theorem finish_ch (n : NdM) : n.finish.ch = n.ch := by unfold NdM.finish; split <;> rfl
theorem base_ch (n : NdM) : n.base.ch = n.ch := by unfold NdM.base; split <;> rfl
theorem greet_ch (C : ConfM) (n : NdM) : (n.greet C).ch = n.ch := by unfold NdM.greet; split <;> rfl
theorem becomes_ch (n : NdM) : n.becomes.ch = n.ch := by
 unfold NdM.becomes; split
 ·rw [base_ch]
 ·rfl
theorem finish_out (k : NdOk C n) : n.finish.out.length ≤ n.out.length + 4096 := by
 have := k.log; have := k.d0
 unfold NdM.finish
 split
 ·unfold NdM.fin; simp; omega
 ·omega
theorem base_out (n : NdM) : n.base.out.length ≤ n.out.length + 1 := by unfold NdM.base; split; (unfold NdM.send; simp); omega
theorem greet_out (C : ConfM) (n : NdM) : (n.greet C).out.length ≤ n.out.length + 1 := by unfold NdM.greet; split; omega; (unfold NdM.send; simp)
theorem becomes_out (n : NdM) : n.becomes.out.length ≤ n.out.length + 1 := by
 unfold NdM.becomes; split
 ·exact base_out _
 ·omega
theorem NdOk.fwd1 (k : NdOk C n) (e : EntryM) : NdOk C (n.fwd1 C e) := by
 unfold NdM.fwd1
 split
 ·rename_i h; exact (k.logApp (by have := h.1.2.2; omega) h.2).finish.becomes
 ·exact k
theorem fwd1_ch (C : ConfM) (n : NdM) (e : EntryM) : (n.fwd1 C e).ch = n.ch := by
 unfold NdM.fwd1
 split
 ·rw [becomes_ch, finish_ch]
 ·rfl
theorem fwd1_out (k : NdOk C n) (e : EntryM) : (n.fwd1 C e).out.length ≤ n.out.length + 4097 := by
 unfold NdM.fwd1
 split
 ·rename_i h
  have h1 := finish_out (k.logApp (by have := h.1.2.2; omega) h.2)
  have h2 := becomes_out (NdM.finish { n with log := n.log ++ [e] })
  have h3 : ({ n with log := n.log ++ [e] } : NdM).out.length = n.out.length := rfl
  omega
 ·omega
theorem Ent.opn {X : Cx} {L M : List HP} {ι : Type} {H : HP} {φ : ι → Prop} {Ls : ι → List HP} (i : Nat) (hL : L[i]? = some H) (h : HOpn H φ Ls) (k : ∀ x, φ x → Ent X (Ls x ++ L.eraseIdx i) M) : Ent X L M := fun w hw => by
 obtain ⟨x, hx, h2⟩ := HOpn.st i hL h w hw
 exact k x hx w h2
def nqL (p : Nat) (C : ConfM) (ca : Option Addr) (cc : Nat) (m : MemP) (n : NdM) (lp ap rp : Nat) (x : Option Addr × Nat) : List HP := [pt p (nmCs C ca cc m n ⟨lp, ap, rp, x.1, x.2⟩) ndT, slH rsnT 30 x.1 n.out.length x.2 (flat sndC n.out)]
def nqH (p : Nat) (C : ConfM) (ca : Option Addr) (cc : Nat) (m : MemP) (n : NdM) (lp ap rp : Nat) : HP := hex fun x => hsep (nqL p C ca cc m n lp ap rp x)
theorem HOpn.nq (p : Nat) (C : ConfM) (ca : Option Addr) (cc : Nat) (m : MemP) (n : NdM) (lp ap rp : Nat) : HOpn (ι := Option Addr × Nat) (nqH p C ca cc m n lp ap rp) (fun _ => True) (fun x => nqL p C ca cc m n lp ap rp x) := fun w ids ⟨x, h⟩ hn => ⟨x, trivial, ids, h, hn, fun _ h => h⟩
theorem Imp.nq {lp ap rp : Nat} {L M : List HP} (x : Option Addr × Nat) (h : Imp L (nqL p C ca cc m n lp ap rp x ++ M)) : Imp L (nqH p C ca cc m n lp ap rp :: M) :=
 Imp.ex (f := fun x => hsep (nqL p C ca cc m n lp ap rp x)) x (Imp.sep (Ls := nqL p C ca cc m n lp ap rp x) h)
theorem nsendq_spec (lp ap rp : Nat) (ho : n.out.length ≤ 10000000) (to : Int) (f : FrameM) : Tri Tryz.prog 97 [.pointer (some ⟨p, 0, none⟩), .int .i64 to, .agg (fgC f mem0).toArray] Fr w [nqH p C ca cc m n lp ap rp]
  (fun v L => v = .tuple #[] ∧ L = [nqH p C ca cc m (n.send to f) lp ap rp]) := by
 refine TF 18 Tryz.func97 Z ym tabOk Z Z ?_
 refine CS (CG (VG (VB (vs := fgC f mem0) Z fun fb => VG (VN ?_))))
 refine VC.opn 1 Z (HOpn.nq p C ca cc m n lp ap rp) ?_
 rintro y -
 show VC _ _ _ [pt p (nmCs C ca cc m n ⟨lp, ap, rp, y.1, y.2⟩) ndT, slH rsnT 30 y.1 n.out.length y.2 (flat sndC n.out), pt fb (fgC f mem0) frT] _
 refine xiy ?_
 refine xeh ?_
 refine VA.go (VA.ldA 2 (fgC f mem0) Z Z Z Z Z ?_)
 refine xmz ?_
 refine VA.go (AO (OpT.buildSlice (n := 1) (pv := [(0, .agg (sndC (to, f)).toArray)]) (cells := sndC (to, f)) Z Z Z Z yy (fill_one Z Z Z)) Z ?_ ?_)
 ·rintro v L' ⟨nb, rfl, rfl⟩
  exact yr
 rintro v L' ⟨nb, rfl, rfl⟩
 refine VA.go (AO (OpT.append (m := 1) (news := sndC (to, f)) 2 Z Z Z Z Z Z Z (RdRow.pt 0 Z Z Z) Z (small_bytes (k := 10000001) yd yy) yd) Z ?_ ?_)
 ·rintro v L' ⟨a2, c2, rfl, hc2, rfl⟩
  exact yr
 rintro v L' ⟨a2, c2, rfl, hc2, rfl⟩
 refine xez ?_
 have hlen : (n.send to f).out.length = n.out.length + 1 := by show (n.out ++ [(to, f)]).length = _; simp
 refine VA.go (VA.st 2 (cs' := nmCs C ca cc m (n.send to f) ⟨lp, ap, rp, a2, c2⟩) Z Z Z Z Z ych (by unfold nmCs; rw [hlen]; rfl) Z yr (VA.go (AN ?_)))
 refine Ret.void Z (Imp.ent (Imp.nq (n := n.send to f) (a2, c2) ?_)) ⟨rfl, Z⟩
 unfold nqL
 rw [hlen, show flat sndC (n.send to f).out = flat sndC n.out ++ sndC (to, f) from by show flat sndC (n.out ++ [(to, f)]) = _; simp [flat_append, flat_cons, flat_nil]]
 exact (pkZ [2, 0])
theorem nreplyq_spec (lp ap rp : Nat) (ho : n.out.length ≤ 10000000) (c s t : Int) (hc0 : -1000000 ≤ c) (hc1 : c ≤ 1000000) (r : ResM) : Tri Tryz.prog 120 [.pointer (some ⟨p, 0, none⟩), .int .i64 c, .int .i64 s, .int .i64 t, .agg (resC r).toArray] Fr w [nqH p C ca cc m n lp ap rp]
  (fun v L => v = .tuple #[] ∧ L = [nqH p C ca cc m (n.reply c s t r) lp ap rp]) := by
 refine TF 19 Tryz.func120 Z ym tabOk Z Z ?_
 refine CS (CG (VG (VB (vs := resC r) Z fun rb => VG (VN ?_))))
 refine CG ?_
 refine zpk ?_
 refine VG (VL 0 (resC r) Z Z Z Z ?_)
 refine xna ?_
 refine VG (VQ 1 (ψ := fun v H => H = nqH p C ca cc m (n.reply c s t r) lp ap rp) Z (fun Fr w hF hs _ => nsendq_spec Fr w lp ap rp ho _ _) Z ybi ?_)
 rintro _ _ rfl
 refine xgk ?_
 exact xje
def NdM.rets (n : NdM) (ws : List RdM) : NdM := { n with out := n.out ++ ws.map fun x => (32 + x.f.client, replyF x.f.client x.f.seq x.f.try_ x.r) }
theorem rets_nil (n : NdM) : n.rets [] = n := by unfold NdM.rets; simp
theorem rets_snoc (n : NdM) (ws : List RdM) (x : RdM) : n.rets (ws ++ [x]) = (n.rets ws).reply x.f.client x.f.seq x.f.try_ x.r := by unfold NdM.rets NdM.reply NdM.send; simp
theorem NdOk.ack2 (k : NdOk C n) (f : FrameM) : NdOk C (n.ack2 f) := by
 have key : ∀ {s : Int}, 0 ≤ s → s ≤ n.log.length → ∀ (l h : Int) (b : Bool), NdOk C { n with limit := l, have_ := h, linked := b, sent := s } := fun h0 h1 l h b => ⟨k.ms, k.log, k.num, k.logc, k.ra, k.calls, k.d0, k.d1, h0, h1, k.w0, k.w1, k.rl, k.rc, k.rn0, k.rn1, k.rcl⟩
 unfold NdM.ack2 NdM.ack1 NdM.back
 split
 ·exact key k.s0 k.s1 _ _ _
 ·refine key (s := backV f.have_ n.log.length) ?_ ?_ _ _ _
  ·rw [backV_eq]; omega
  ·rw [backV_eq]; omega
theorem ack2_ch (n : NdM) (f : FrameM) : (n.ack2 f).ch = n.ch := by unfold NdM.ack2 NdM.ack1 NdM.back; split <;> rfl
theorem ack2_out (n : NdM) (f : FrameM) : (n.ack2 f).out = n.out := by unfold NdM.ack2 NdM.ack1 NdM.back; split <;> rfl
theorem NdOk.ack (k : NdOk C n) (i : Int) : NdOk C (n.ack i) := by
 unfold NdM.ack
 split
 ·rename_i h
  simp only [NdM.ackB, Bool.and_eq_true, decide_eq_true_eq] at h
  exact ⟨k.ms, k.log, k.num, k.logc, k.ra, k.calls, by have := k.d0; show 0 ≤ i; omega, h.2, k.s0, k.s1, k.w0, k.w1, k.rl, k.rc, k.rn0, k.rn1, k.rcl⟩
 ·exact k
theorem ntake_spec (ok : NdOk C n) (hm : RwIn memC 2 Fr w m.1 n.ch.ms) (from_ : Int) (f : FrameM) (m2 : MemP) (ms : List MemM) (hms : RwIn memC 2 Fr w m2.1 ms) (hmsl : ms.length ≤ 1000000) (now : Int) :
  Tri Tryz.prog 31 [.pointer (some ⟨p, 0, none⟩), .int .i64 from_, .agg (fgC f (m2.1, ms.length, m2.2)).toArray, .int .i64 now] Fr w [nm0 p C ca cc m n]
  (fun v L => sentN (n.take C from_ f ms now).out v L [nm0 p C ca cc (if n.enters from_ f ms then m2 else m) (n.take C from_ f ms now)]) := by
 refine TF 267 Tryz.func31 Z ym tabOk Z Z ?_
 refine CS (CG (VG (VB (vs := fgC f (m2.1, ms.length, m2.2)) Z fun fb => VG (VN ?_))))
 refine VC.opn 1 Z (HOpn.nm0 p C ca cc m n) ?_
 rintro ⟨y, on⟩ -
 show VC _ _ _ [pt p (nmC0 C ca cc m n y on) ndT, rlogH y.lp n.log, radH y.ap C ca cc n.adm, rrdsH y.rp n.rds, pt fb (fgC f (m2.1, ms.length, m2.2)) frT] _
 obtain ⟨n0, hn0⟩ : ∃ n0 : NdM, n0 = { n with out := [] } := ⟨_, rfl⟩
 have ok0 : NdOk C n0 := by rw [hn0]; exact ⟨ok.ms, ok.log, ok.num, ok.logc, ok.ra, ok.calls, ok.d0, ok.d1, ok.s0, ok.s1, ok.w0, ok.w1, ok.rl, ok.rc, ok.rn0, ok.rn1, ok.rcl⟩
 have hm0 : RwIn memC 2 Fr w m.1 n0.ch.ms := by rw [hn0]; exact hm
 refine zro ?_
 refine xnq ?_
 refine xgk ?_
 show VC _ _ _ _ _
 refine CN (L' := [nmH p C ca cc m n0, pt fb (fgC f (m2.1, ms.length, m2.2)) frT]) (by rw [hn0]; exact Imp.ent (Imp.nm (n := { n with out := [] }) ⟨y.lp, y.ap, y.rp, none, 0⟩ (IP 0 Z (IP 0 Z (IP 0 Z (IP 0 Z (Imp.slNil Imp.refl))))))) ?_
 have ent0 : n0.enters from_ f ms ↔ n.enters from_ f ms := by rw [hn0]; exact Iff.rfl
 have hout0 : n0.out = [] := by rw [hn0]
 obtain ⟨nw, hnw⟩ : ∃ nw, nw = nowV now := ⟨_, rfl⟩
 have htk : n.take C from_ f ms now = n0.take0 C from_ f ms nw := by rw [NdM.take, hn0, hnw]
 rw [htk]
 clear htk hn0 ok hm
 obtain ⟨mm, hmm⟩ : ∃ mm, mm = if n.enters from_ f ms then m2 else m := ⟨_, rfl⟩
 rw [← hmm]
 have pb := place_bd n0
 have hms0 := ok0.ms
 refine xlf ?_
 refine xnr ?_
 rintro y1 -
 show VC _ _ _ [pt p (nmCs C ca cc m n0 y1) ndT, rlogH y1.lp n0.log, radH y1.ap C ca cc n0.adm, rrdsH y1.rp n0.rds, slH rsnT 30 y1.oa n0.out.length y1.oc (flat sndC n0.out), pt fb (fgC f (m2.1, ms.length, m2.2)) frT] _
 refine VC.meetS (σ := Unit) (fun _ => [(0, pV p), (1, .int .i64 from_), (3, .int .i64 nw), (6, pV fb), (9, .bool (n0.own from_ f))]) (fun _ => [pt p (nmCs C ca cc m n0 y1) ndT, rlogH y1.lp n0.log, radH y1.ap C ca cc n0.adm, rrdsH y1.rp n0.rds, slH rsnT 30 y1.oa n0.out.length y1.oc (flat sndC n0.out), pt fb (fgC f (m2.1, ms.length, m2.2)) frT]) (fun _ => True) ?_ ?_
 ·refine CD (ts 0 14 (.only 14 (ts 15 3 .nil))) ym yq ?_
  refine xfr ?_
  have fin : ∀ {E : Env} {d : Bool}, Vg.look E 0 = some (.pointer (some ⟨p, 0, none⟩)) → Vg.look E 1 = some (.int .i64 from_) → Vg.look E 3 = some (.int .i64 (nowV now)) → Vg.look E 6 = some (.pointer (some ⟨fb, 0, none⟩)) → Vg.look E 9 = some (.bool d) → d = n0.own from_ f →
    Sub [(0, pV p), (1, .int .i64 from_), (3, .int .i64 nw), (6, pV fb), (9, .bool (n0.own from_ f))] E := fun h0 h1 h2 h3 h4 h5 => SC h0 (SC h1 (SC (by rw [h2, hnw]) (SC h3 (SC (by rw [h4, h5]) (SN _)))))
  by_cases h1 : 0 ≤ from_
  rotate_left
  ·refine VA.go (AY 23 false Z (DF h1) ?_)
   refine VA.go (AY 33 false Z Z ?_)
   refine zrq ?_
   exact ⟨(), trivial, fin Z Z Z Z Z (by rw [NdM.own, DF h1]; rfl), ER⟩
  refine VA.go (AY 23 true Z (DT h1) ?_)
  refine xfr ?_
  by_cases h2 : f.epoch = n0.ch.epoch
  rotate_left
  ·have h2' : (f.epoch == n0.ch.epoch) = false := by rw [beq_eq_false_iff_ne]; exact h2
   refine VA.go (AY 33 false Z h2' ?_)
   refine zrq ?_
   exact ⟨(), trivial, fin Z Z Z Z Z (by rw [NdM.own, h2', Bool.false_and, Bool.and_false]), ER⟩
  have h2' : (f.epoch == n0.ch.epoch) = true := by rw [beq_iff_eq]; exact h2
  refine VA.go (AY 33 true Z h2' ?_)
  refine VA.go (AR (fun Fr w hF hs hS => nplace_spec Fr w (NmIn.pcs hS 0 Z Z Z Z) (RwIn.of hm0 hF hs) hms0) Z Z yr ?_)
  refine xfr ?_
  exact ⟨(), trivial, fin Z Z Z Z Z (by rw [NdM.own, DT h1, h2']; rfl), ER⟩
 rintro _ -
 refine xfo ?_
 refine xns ?_
 refine xfj ?_
 refine VG (VV (fun Fr w hF hs hS => nat_spec Fr w (NmIn.pcs hS 0 Z Z Z Z) (RwIn.of hm0 hF hs) hms0 (n0.place - 1)) Z ?_)
 refine xns ?_
 refine xei ?_
 refine VG (VV (fun Fr w hF hs hS => nat_spec Fr w (NmIn.pcs hS 0 Z Z Z Z) (RwIn.of hm0 hF hs) hms0 (n0.place + 1)) Z ?_)
 refine xgk ?_
 show VC _ _ _ _ _
 obtain ⟨T, hT⟩ : ∃ T, T = n0.take0 C from_ f ms nw := ⟨_, rfl⟩
 rw [← hT]
 refine CN (L' := [nmH p C ca cc m n0, pt fb (fgC f (m2.1, ms.length, m2.2)) frT]) (Imp.nmB Imp.refl).ent ?_
 refine CS ?_
 refine VC.meetS (σ := Unit) (fun _ => [(0, pV p)]) (fun _ => [nmH p C ca cc mm T]) (fun _ => True) ?_ ?_
 rotate_left
 ·rintro _ -
  refine VC.opn 0 Z (HOpn.nm p C ca cc mm T) ?_
  rintro y2 -
  show VC _ _ _ [pt p (nmCs C ca cc mm T y2) ndT, rlogH y2.lp T.log, radH y2.ap C ca cc T.adm, rrdsH y2.rp T.rds, slH rsnT 30 y2.oa T.out.length y2.oc (flat sndC T.out)] _
  refine xdy ?_
  exact CR (Ret.tmp 8 Z Z (Imp.ent (Imp.nm0 (n := T) (y2, T.out.length) (IP 0 Z (IP 0 Z (IP 0 Z (IP 0 Z (IP 0 Z Imp.nil))))))) ⟨y2.oa, y2.oc, Z, Z⟩)
 refine xhm ?_
 refine VG (VO.ld 1 Z Z Z Z (VG (VN ?_)))
 show VC _ _ _ _ _
 refine xjt ?_
 have miss : ∀ {X : Cx}, T = n0 → f.kind ≠ 8 → Ent X [nmH p C ca cc m n0, pt fb (fgC f (m2.1, ms.length, m2.2)) frT] [nmH p C ca cc mm T] := fun {X} h1 h2 => by
  rw [h1, hmm, if_neg (fun h => h2 h.1)]; exact (IP 0 rfl Imp.nil).ent
 refine xlf ?_
 refine CE (i := f.kind) (j := 1) Z (fun k1 => ?_) (fun k1 => ?_)
 ·have hmm' : mm = m := by rw [hmm, if_neg (fun h => by have := h.1; omega)]
  have hT' : T = if f.client < 0 ∨ C.clients ≤ f.client then n0 else if readsM f.op = true then n0.read f nw else n0.update f nw := by rw [hT, NdM.take0, if_pos k1]
  have c6 := ok0.ra.c6; have ccl := ok0.ra.cl
  have ho0 : n0.out.length ≤ 9000000 := by rw [hout0]; show 0 ≤ 9000000; omega
  rw [hmm']
  refine xnr ?_
  rintro y3 -
  show VC _ _ _ [pt p (nmCs C ca cc m n0 y3) ndT, rlogH y3.lp n0.log, radH y3.ap C ca cc n0.adm, rrdsH y3.rp n0.rds, slH rsnT 30 y3.oa n0.out.length y3.oc (flat sndC n0.out), pt fb (fgC f (m2.1, ms.length, m2.2)) frT] _
  have early : ∀ {X : Cx} {E : Env} {fn : Func}, fn.results = #[.tmp 8] → Vg.look E 8 = some (.slice none 0 0) → (f.client < 0 ∨ C.clients ≤ f.client) → Ret X fn (fun v L => sentN T.out v L [nm0 p C ca cc m T]) E [pt p (nmCs C ca cc m n0 y3) ndT, rlogH y3.lp n0.log, radH y3.ap C ca cc n0.adm, rrdsH y3.rp n0.rds, slH rsnT 30 y3.oa n0.out.length y3.oc (flat sndC n0.out), pt fb (fgC f (m2.1, ms.length, m2.2)) frT] := fun {X E fn} h1 h2 h3 => by
   rw [hT', if_pos h3]
   exact Ret.tmp 8 h1 h2 (Imp.ent (Imp.nm0 (n := n0) (y3, n0.out.length) (IP 0 Z (IP 0 Z (IP 0 Z (IP 0 Z (Imp.slNil Imp.nil))))))) ⟨none, 0, by rw [hout0]; rfl, by rw [hout0]; rfl⟩
  refine CS (CS (CD (ts 0 13 .nil) ym yq ?_))
  refine xfr ?_
  by_cases h1 : f.client < 0
  ·refine VA.go (AY 55 true Z (DT h1) ?_)
   refine xfr ?_
   refine xem ?_
   refine xfn ?_
   exact CR (early Z Z (.inl h1))
  refine VA.go (AY 55 false Z (DF h1) ?_)
  refine xfr ?_
  refine CP (p := C.clients ≤ f.client) Z (fun h2 => ?_) (fun h2 => CK ?_)
  ·refine xfn ?_
   exact CR (early Z Z (.inr h2))
  rw [if_neg (fun h => h.elim h1 h2)] at hT'
  refine xhm ?_
  refine VG (VL 5 f.op.cells Z Z Z Z ?_)
  refine VG (VV (fun Fr w hF hs hS => rreads_spec Fr w f.op) Z ?_)
  refine xgk ?_
  refine CC Z (fun h3 => ?_) (fun h3 => ?_)
  ·rw [if_pos h3] at hT'
   refine CG ?_
   refine VG (VL 5 (fgC f (m2.1, ms.length, m2.2)) Z Z Z Z ?_)
   refine xnt ?_
   refine VG (VQ 0 (ψ := fun v H => H = nmH p C ca cc m (n0.read f nw)) Z (fun Fr w hF hs _ => nread_spec Fr w ok0 (RwIn.of hm0 hF hs) ho0 (f, (m2.1, ms.length, m2.2)) nw yct ycu) Z ybi ?_)
   rintro _ _ rfl
   refine xgk ?_
   exact xnu
  ·rw [if_neg ycv] at hT'
   refine CG ?_
   refine VG (VL 5 (fgC f (m2.1, ms.length, m2.2)) Z Z Z Z ?_)
   refine xnt ?_
   refine VG (VQ 0 (ψ := fun v H => H = nmH p C ca cc m (n0.update f nw)) Z (fun Fr w hF hs _ => nupdate_spec Fr w ok0 (RwIn.of hm0 hF hs) ho0 (f, (m2.1, ms.length, m2.2)) nw yct ycu) Z ybi ?_)
   rintro _ _ rfl
   refine xgk ?_
   exact xnu
 refine xlf ?_
 refine CE (i := f.kind) (j := 8) Z (fun k8 => ?_) (fun k8 => ?_)
 ·have hT' : T = if n0.enters from_ f ms then n0.enter C (frCh f ms) else n0 := by rw [hT, NdM.take0, if_neg k1, if_pos k8]
  refine xnr ?_
  rintro y3 -
  show VC _ _ _ [pt p (nmCs C ca cc m n0 y3) ndT, rlogH y3.lp n0.log, radH y3.ap C ca cc n0.adm, rrdsH y3.rp n0.rds, slH rsnT 30 y3.oa n0.out.length y3.oc (flat sndC n0.out), pt fb (fgC f (m2.1, ms.length, m2.2)) frT] _
  have no : ∀ {X : Cx}, ¬ n0.enters from_ f ms → Ent X [pt p (nmCs C ca cc m n0 y3) ndT, rlogH y3.lp n0.log, radH y3.ap C ca cc n0.adm, rrdsH y3.rp n0.rds, slH rsnT 30 y3.oa n0.out.length y3.oc (flat sndC n0.out), pt fb (fgC f (m2.1, ms.length, m2.2)) frT] [nmH p C ca cc mm T] := fun {X} h => by
   rw [hT', if_neg h, hmm, if_neg (fun h2 => h (ent0.2 h2))]; exact (Imp.nmB Imp.nil).ent
  refine CS ?_
  refine VC.meetS (σ := Bool) (fun d => [(0, pV p), (6, pV fb), (96, .bool d)]) (fun _ => [pt p (nmCs C ca cc m n0 y3) ndT, rlogH y3.lp n0.log, radH y3.ap C ca cc n0.adm, rrdsH y3.rp n0.rds, slH rsnT 30 y3.oa n0.out.length y3.oc (flat sndC n0.out), pt fb (fgC f (m2.1, ms.length, m2.2)) frT]) (fun d => d = true ↔ n0.enters from_ f ms) ?_ ?_
  ·refine CD (ts 0 16 (.only 16 (ts 17 2 .nil))) ym yq ?_
   refine xfr ?_
   by_cases h1 : from_ = 16
   rotate_left
   ·refine VA.go (AY 80 false Z ycm ?_)
    refine VA.go (AY 91 false Z Z ?_)
    refine zrq ?_
    exact ⟨false, ⟨fun h => (by cases h), fun h => absurd h.2.1 h1⟩, sbZ, ER⟩
   refine VA.go (AY 80 true Z (by rw [beq_iff_eq]; exact h1) ?_)
   refine xfr ?_
   by_cases h2 : n0.ch.epoch < f.cepoch
   rotate_left
   ·refine VA.go (AY 91 false Z (DF h2) ?_)
    refine zrq ?_
    exact ⟨false, ⟨fun h => (by cases h), fun h => absurd h.2.2.1 h2⟩, sbZ, ER⟩
   refine VA.go (AY 91 true Z (DT h2) ?_)
   refine VA.go (VA.ldA 5 ((frCh f ms).cells m2.1 m2.2) Z Z Z Z Z ?_)
   refine VA.go (AR (fun Fr w hF hs hS => rchk_spec Fr w (c := frCh f ms) (RwIn.of hms hF hs) hmsl) Z Z yr ?_)
   refine xfc ?_
   exact ⟨_, ⟨fun h => ⟨k8, h1, h2, by simpa using h⟩, fun h => by simpa using h.2.2.2⟩, SC Z (SC Z (SC Z (SN _))), ER⟩
  rintro d hd
  refine CC Z (fun h1 => ?_) (fun h1 => CK ?_)
  rotate_left
  ·exact ⟨(), trivial, sbZ, no (fun h => by rw [hd.2 h] at h1; cases h1)⟩
  have he := hd.1 h1
  have hcl : (frCh f ms).ms.length ≤ 1000 := by
   have := he.2.2.2
   unfold chE at this
   split at this
   ·rename_i h
    unfold chOk headOk at h
    simp only [Bool.and_eq_true, decide_eq_true_eq] at h
    have := h.1.2.2.2
    show ms.length ≤ 1000
    have h6 : ms.length ≤ 6 := this
    omega
   ·cases this
  refine CG ?_
  refine xfo ?_
  refine VG (VL 5 ((frCh f ms).cells m2.1 m2.2) Z Z Z Z ?_)
  refine xnt ?_
  refine VG (VQ 0 (ψ := fun v H => H = nmH p C ca cc m2 (n0.enter C (frCh f ms))) Z (fun Fr w hF hs _ => nenter_spec Fr w ok0 (by rw [hout0]; show 0 ≤ _; omega) (c := frCh f ms) (m2 := m2) (RwIn.of hms hF hs) hcl) Z ybi ?_)
  rintro _ _ rfl
  refine xgk ?_
  exact ⟨(), trivial, sbZ, by rw [hT', if_pos he, hmm, if_pos (ent0.1 he)]; exact ER⟩
 have hmm' : mm = m := by rw [hmm, if_neg (fun h => k8 h.1)]
 rw [hmm'] at miss ⊢
 refine xlf ?_
 refine CE (i := f.kind) (j := 4) Z (fun k4 => ?_) (fun k4 => ?_)
 ·have hT' : T = if n0.own from_ f = true ∧ from_ = n0.ahead then n0.forward C f.entry else n0 := by rw [hT, NdM.take0, if_neg k1, if_neg k8, if_pos k4]
  have hl96 := ok0.log; have hd0 := ok0.d0; have hd1 := ok0.d1; have hw1 := ok0.w1
  by_cases h1 : n0.own from_ f = true
  rotate_left
  ·refine xlf ?_
   refine VG (VY 104 false Z ybj ?_)
   refine zqs ?_
   exact xnv
  refine xlf ?_
  refine VG (VY 104 true Z h1 ?_)
  refine xlf ?_
  refine CE (i := from_) (j := n0.ahead) Z (fun h2 => ?_) (fun h2 => CK ?_)
  rotate_left
  ·exact xnw
  rw [if_pos ⟨h1, h2⟩] at hT'
  refine CS ?_
  refine VC.meetS (σ := Unit) (fun _ => [(0, pV p)]) (fun _ => [nmH p C ca cc m (n0.fwd1 C f.entry)]) (fun _ => True) ?_ ?_
  rotate_left
  ·rintro _ -
   refine CG ?_
   refine VG (VQ 0 (ψ := fun v H => H = nmH p C ca cc m (n0.forward C f.entry)) Z (fun Fr w hF hs _ => ngreet_spec Fr w (ok0.fwd1 f.entry) (by rw [fwd1_ch]; exact RwIn.of hm0 hF hs) (by have := fwd1_out ok0 f.entry; rw [hout0] at this; simp at this; omega)) Z ybi ?_)
   rintro _ _ rfl
   refine xgk ?_
   exact xnu
  refine xnr ?_
  rintro y3 -
  show VC _ _ _ [pt p (nmCs C ca cc m n0 y3) ndT, rlogH y3.lp n0.log, radH y3.ap C ca cc n0.adm, rrdsH y3.rp n0.rds, slH rsnT 30 y3.oa n0.out.length y3.oc (flat sndC n0.out), pt fb (fgC f (m2.1, ms.length, m2.2)) frT] _
  refine CS ?_
  refine VC.meetS (σ := Bool) (fun d => [(0, pV p), (6, pV fb), (135, .bool d)]) (fun _ => [pt p (nmCs C ca cc m n0 y3) ndT, rlogH y3.lp n0.log, radH y3.ap C ca cc n0.adm, rrdsH y3.rp n0.rds, slH rsnT 30 y3.oa n0.out.length y3.oc (flat sndC n0.out), pt fb (fgC f (m2.1, ms.length, m2.2)) frT]) (fun d => d = true ↔ n0.fwdOk C f.entry) ?_ ?_
  ·refine CD (ts 0 4 (.only 4 (ts 5 4 (ts 10 4 (ts 15 5 (.only 9 (.take 14 (ts 20 4 (.only 24 (ts 25 2 .nil)))))))))) ym yq ?_
   refine xfr ?_
   refine xnf ?_
   refine xeg ?_
   refine xfr ?_
   by_cases h3 : f.entry.index = n0.log.length + 1
   rotate_left
   ·refine VA.go (AY 116 false Z ybt ?_)
    refine xil ?_
    refine VA.go (AY 131 false Z Z ?_)
    refine zrq ?_
    exact ⟨false, ⟨fun h => (by cases h), fun h => absurd h.1 h3⟩, sbZ, ER⟩
   refine VA.go (AY 116 true Z (by rw [beq_iff_eq]; exact h3) ?_)
   refine xfr ?_
   refine xnf ?_
   refine xgl ?_
   refine xfr ?_
   by_cases h4 : (n0.log.length : Int) - n0.done < C.window
   rotate_left
   ·refine VA.go (AY 131 false Z (DF h4) ?_)
    refine zrq ?_
    exact ⟨false, ⟨fun h => (by cases h), fun h => absurd h.2.1 h4⟩, sbZ, ER⟩
   refine VA.go (AY 131 true Z (DT h4) ?_)
   refine xfr ?_
   refine xnf ?_
   refine xfc ?_
   exact ⟨_, ⟨fun h => ⟨h3, h4, by have := of_decide_eq_true h; omega⟩, fun h => DT (by have := h.2.2; omega)⟩, SC Z (SC Z (SC Z (SN _))), ER⟩
  rintro d hd
  refine CC Z (fun h3 => ?_) (fun h3 => CK ?_)
  rotate_left
  ·exact ⟨(), trivial, sbZ, by rw [NdM.fwd1, if_neg (fun h => by rw [hd.2 h.1] at h3; cases h3)]; exact (Imp.nmB Imp.nil).ent⟩
  have hfo := hd.1 h3
  obtain ⟨N1, hN1⟩ : ∃ N1 : NdM, N1 = { n0 with log := logApp n0.log f.entry } := ⟨_, rfl⟩
  refine CS ?_
  refine VC.meetS (σ := Unit) (fun _ => [(0, pV p), (13, .int .i64 (logErr n0.log f.entry))]) (fun _ => [nmH p C ca cc m N1]) (fun _ => True) ?_ ?_
  ·refine CD (ts 0 6 (.two 6 10 (ts 7 3 (.only 10 (.only 11 (.take 12 .nil)))) (.only 6 (ts 7 3 (.only 11 (.take 12 .nil)))))) ym yq ?_
   refine xfr ?_
   refine VA.go (VA.ldA 5 (entC f.entry) Z Z Z Z Z ?_)
   refine VA.go (VA.two Z Z Z Z Z (OpT.callAt (ψ := fun v H => (∃ r, v = .tuple #[.agg (resC r).toArray, .int .i64 (logErr n0.log f.entry)]) ∧ H = rlogH y3.lp (logApp n0.log f.entry)) 1 Z (fun Fr w hF hs hS => rlapp_spec Fr w y3.lp n0.log ok0.num ok0.log f.entry) Z yz) Z Z Z (OpT.alloc Z) ?_ ?_ ?_ ?_)
   ·rintro _ _ ⟨H, ⟨⟨r, rfl⟩, rfl⟩, rfl⟩
    exact yr
   ·rintro _ _ ⟨q, rfl, rfl⟩
    exact yr
   ·rintro _ _ ⟨H, ⟨⟨r, rfl⟩, rfl⟩, rfl⟩
    refine VA.go (AO (OpT.alloc Z) Z ?_ ?_)
    ·rintro _ _ ⟨q, rfl, rfl⟩
     exact yr
    rintro _ _ ⟨q, rfl, rfl⟩
    refine zqr ?_
    exact xnx
   ·rintro _ _ ⟨q, rfl, rfl⟩
    refine VA.go (AQ 2 (ψ := fun v H => (∃ r, v = .tuple #[.agg (resC r).toArray, .int .i64 (logErr n0.log f.entry)]) ∧ H = rlogH y3.lp (logApp n0.log f.entry)) Z (fun Fr w hF hs _ => rlapp_spec Fr w y3.lp n0.log ok0.num ok0.log f.entry) Z Z yz (fun v H h => by rw [h.2]; exact yr) ?_)
    rintro _ _ ⟨⟨r, rfl⟩, rfl⟩
    refine zqr ?_
    exact xnx
  rintro _ -
  refine xny ?_
  refine CE (i := logErr n0.log f.entry) (j := 0) Z (fun h4 => ?_) (fun h4 => CK ?_)
  rotate_left
  ·exact ⟨(), trivial, sbZ, by rw [NdM.fwd1, if_neg (fun h => h4 h.2), hN1, logApp, if_neg h4]; exact ER⟩
  have eN1 : N1 = { n0 with log := n0.log ++ [f.entry] } := by rw [hN1, logApp, if_pos h4]
  have ok1 : NdOk C N1 := by rw [eN1]; exact ok0.logApp (by have := hfo.2.2; omega) h4
  have hch1 : N1.ch = n0.ch := by rw [eN1]
  have hou1 : N1.out = [] := by rw [eN1]; exact hout0
  have efw : n0.fwd1 C f.entry = N1.finish.becomes := by rw [NdM.fwd1, if_pos ⟨hfo, h4⟩, eN1]
  have hfo1 := finish_out ok1
  rw [hou1] at hfo1
  refine xhm ?_
  refine VG (VQ 0 (ψ := fun v H => H = nmH p C ca cc m N1.finish) Z (fun Fr w hF hs _ => nfinish_spec Fr w ok1 (by rw [hch1]; exact RwIn.of hm0 hF hs) (by rw [hou1]; show 0 ≤ _; omega)) Z ybi ?_)
  rintro _ _ rfl
  refine xgk ?_
  show VC _ _ _ _ _
  refine CG ?_
  refine VG (VQ 0 (ψ := fun v H => H = nmH p C ca cc m N1.finish.becomes) Z (fun Fr w hF hs _ => nbecomes_spec Fr w (by rw [finish_ch, hch1]; exact ok0.ms) (by rw [finish_ch, hch1]; exact RwIn.of hm0 hF hs) (by simp at hfo1; omega)) Z ybi ?_)
  rintro _ _ rfl
  refine xgk ?_
  exact ⟨(), trivial, sbZ, by rw [efw]; exact ER⟩
 refine xlf ?_
 refine CE (i := f.kind) (j := 5) Z (fun k5 => ?_) (fun k5 => ?_)
 ·have hT' : T = if n0.own from_ f = true ∧ from_ = n0.next then n0.ackN C f else n0 := by rw [hT, NdM.take0, if_neg k1, if_neg k8, if_neg k4, if_pos k5]
  by_cases h1 : n0.own from_ f = true
  rotate_left
  ·refine xlf ?_
   refine VG (VY 157 false Z ybj ?_)
   refine zqs ?_
   exact xnv
  refine xlf ?_
  refine VG (VY 157 true Z h1 ?_)
  refine xlf ?_
  refine CE (i := from_) (j := n0.next) Z (fun h2 => ?_) (fun h2 => CK ?_)
  rotate_left
  ·exact xnw
  rw [if_pos ⟨h1, h2⟩] at hT'
  refine CS ?_
  refine VC.meetS (σ := Unit) (fun _ => [(0, pV p), (6, pV fb)]) (fun _ => [nmH p C ca cc m (n0.ack1 f), pt fb (fgC f (m2.1, ms.length, m2.2)) frT]) (fun _ => True) ?_ ?_
  ·refine xnr ?_
   rintro y3 -
   show VC _ _ _ [pt p (nmCs C ca cc m n0 y3) ndT, rlogH y3.lp n0.log, radH y3.ap C ca cc n0.adm, rrdsH y3.rp n0.rds, slH rsnT 30 y3.oa n0.out.length y3.oc (flat sndC n0.out), pt fb (fgC f (m2.1, ms.length, m2.2)) frT] _
   refine xfo ?_
   refine CC Z (fun h3 => ?_) (fun h3 => ?_)
   ·have e : n0.ack1 f = { n0 with have_ := mxV n0.have_ f.have_ } := by rw [NdM.ack1, if_pos h3]
    refine xjr ?_
    refine xfr ?_
    refine VA.go (VA.st 0 (cs' := nmCs C ca cc m { n0 with have_ := mxV n0.have_ f.have_ } y3) Z Z Z Z Z yaf Z Z yr (VA.go (AN ?_)))
    exact ⟨(), trivial, sbZ, by rw [e]; exact Imp.ent (Imp.nmB (n := { n0 with have_ := mxV n0.have_ f.have_ }) (y := y3) Imp.refl)⟩
   ·have e : n0.ack1 f = NdM.back { n0 with linked := true, have_ := f.have_ } := by rw [NdM.ack1, if_neg ycv]
    refine CS (CD (ts 0 6 (.only 6 (ts 7 2 (.only 9 .nil)))) ym yq ?_)
    refine xfr ?_
    refine VA.go (VA.st 0 (cs' := nmCs C ca cc m { n0 with linked := true } y3) Z Z Z Z Z (by show 27 < 29; omega) Z Z yr ?_)
    refine xfr ?_
    refine VA.go (VA.st 0 (cs' := nmCs C ca cc m { n0 with linked := true, have_ := f.have_ } y3) Z Z Z Z Z yaf Z Z yr (VA.go (AN ?_)))
    show VC _ _ _ _ _
    refine CN (L' := [nmH p C ca cc m { n0 with linked := true, have_ := f.have_ }, pt fb (fgC f (m2.1, ms.length, m2.2)) frT]) (Imp.nmB (n := { n0 with linked := true, have_ := f.have_ }) (y := y3) Imp.refl).ent ?_
    refine CG ?_
    refine VG (VQ 0 (ψ := fun v H => H = nmH p C ca cc m (NdM.back { n0 with linked := true, have_ := f.have_ })) Z (fun Fr w hF hs _ => nback_spec Fr w) Z ybi ?_)
    rintro _ _ rfl
    refine xgk ?_
    exact ⟨(), trivial, sbZ, by rw [e]; exact ER⟩
  rintro _ -
  have oka : NdOk C (n0.ack2 f) := ok0.ack2 f
  have hcha : (n0.ack2 f).ch = n0.ch := ack2_ch n0 f
  have houa : (n0.ack2 f).out = [] := by rw [ack2_out]; exact hout0
  refine VC.opn 0 Z (HOpn.nm p C ca cc m (n0.ack1 f)) ?_
  rintro y3 -
  show VC _ _ _ [pt p (nmCs C ca cc m (n0.ack1 f) y3) ndT, rlogH y3.lp (n0.ack1 f).log, radH y3.ap C ca cc (n0.ack1 f).adm, rrdsH y3.rp (n0.ack1 f).rds, slH rsnT 30 y3.oa (n0.ack1 f).out.length y3.oc (flat sndC (n0.ack1 f).out), pt fb (fgC f (m2.1, ms.length, m2.2)) frT] _
  refine CS (CD (ts 0 11 (.only 11 .nil)) ym yq ?_)
  refine xfr ?_
  refine VA.go (VA.st 0 (cs' := nmCs C ca cc m (n0.ack2 f) y3) Z Z Z Z Z (by show 23 < 29; omega) Z Z yr (VA.go (AN ?_)))
  show VC _ _ _ _ _
  refine CN (L' := [nmH p C ca cc m (n0.ack2 f), pt fb (fgC f (m2.1, ms.length, m2.2)) frT]) (Imp.nmB (n := n0.ack2 f) (y := y3) Imp.refl).ent ?_
  refine xhm ?_
  refine xlf ?_
  refine xhk ?_
  refine VG (VQ 0 (ψ := fun v H => v = .bool ((n0.ack2 f).ackB f.index) ∧ H = nmH p C ca cc m ((n0.ack2 f).ack f.index)) Z (fun Fr w hF hs _ => nack_spec Fr w f.index) Z yz ?_)
  rintro _ _ ⟨rfl, rfl⟩
  refine xgk ?_
  show VC _ _ _ _ _
  refine CC Z (fun h3 => ?_) (fun h3 => CK ?_)
  rotate_left
  ·have e : T = (n0.ack2 f).ack f.index := by rw [hT', NdM.ackN, if_neg ycv, NdM.ack, if_neg ycv]
   exact ⟨(), trivial, sbZ, by rw [e]; exact (IP 0 Z Imp.nil).ent⟩
  have e : T = ((n0.ack2 f).ack f.index).greet C := by rw [hT', NdM.ackN, if_pos h3]
  have okb : NdOk C ((n0.ack2 f).ack f.index) := oka.ack f.index
  have hchb : ((n0.ack2 f).ack f.index).ch = n0.ch := by rw [NdM.ack, if_pos h3]; exact hcha
  have houb : ((n0.ack2 f).ack f.index).out = [] := by rw [NdM.ack, if_pos h3]; exact houa
  refine CG ?_
  refine VG (VQ 0 (ψ := fun v H => H = nmH p C ca cc m (((n0.ack2 f).ack f.index).greet C)) Z (fun Fr w hF hs _ => ngreet_spec Fr w okb (by rw [hchb]; exact RwIn.of hm0 hF hs) (by rw [houb]; show 0 ≤ _; omega)) Z ybi ?_)
  rintro _ _ rfl
  refine xgk ?_
  exact ⟨(), trivial, sbZ, by rw [e]; exact (IP 0 Z Imp.nil).ent⟩
 refine xlf ?_
 refine CE (i := f.kind) (j := 6) Z (fun k6 => ?_) (fun k6 => ?_)
 ·have hT' : T = if n0.own from_ f = true ∧ from_ = n0.ahead then NdM.becomes { n0 with bs := f.index } else n0 := by rw [hT, NdM.take0, if_neg k1, if_neg k8, if_neg k4, if_neg k5, if_pos k6]
  by_cases h1 : n0.own from_ f = true
  rotate_left
  ·refine xlf ?_
   refine VG (VY 206 false Z ybj ?_)
   refine zqs ?_
   exact xnv
  refine xlf ?_
  refine VG (VY 206 true Z h1 ?_)
  refine xlf ?_
  refine CE (i := from_) (j := n0.ahead) Z (fun h2 => ?_) (fun h2 => CK ?_)
  rotate_left
  ·exact xnw
  rw [if_pos ⟨h1, h2⟩] at hT'
  refine xnr ?_
  rintro y3 -
  show VC _ _ _ [pt p (nmCs C ca cc m n0 y3) ndT, rlogH y3.lp n0.log, radH y3.ap C ca cc n0.adm, rrdsH y3.rp n0.rds, slH rsnT 30 y3.oa n0.out.length y3.oc (flat sndC n0.out), pt fb (fgC f (m2.1, ms.length, m2.2)) frT] _
  refine xhm ?_
  refine xfo ?_
  refine VG (VO.st 0 (cs' := nmCs C ca cc m { n0 with bs := f.index } y3) Z Z Z Z (by show 19 < 29; omega) Z Z ?_)
  refine xgk ?_
  show VC _ _ _ _ _
  refine CN (L' := [nmH p C ca cc m { n0 with bs := f.index }]) (Imp.nmB (n := { n0 with bs := f.index }) (y := y3) Imp.nil).ent ?_
  refine CG ?_
  refine VG (VQ 0 (ψ := fun v H => H = nmH p C ca cc m (NdM.becomes { n0 with bs := f.index })) Z (fun Fr w hF hs _ => nbecomes_spec Fr w (n := { n0 with bs := f.index }) hms0 (RwIn.of hm0 hF hs) (by show n0.out.length ≤ _; rw [hout0]; show 0 ≤ _; omega)) Z ybi ?_)
  rintro _ _ rfl
  refine xgk ?_
  exact xnu
 refine xlf ?_
 refine CE (i := f.kind) (j := 10) Z (fun k10 => ?_) (fun k10 => ?_)
 ·have hT' : T = if n0.own from_ f = true ∧ from_ = 16 then n0.sure f.index else n0 := by rw [hT, NdM.take0, if_neg k1, if_neg k8, if_neg k4, if_neg k5, if_neg k6, if_pos k10]
  by_cases h1 : n0.own from_ f = true
  rotate_left
  ·refine xlf ?_
   refine VG (VY 221 false Z ybj ?_)
   refine zqs ?_
   exact xnv
  refine xlf ?_
  refine VG (VY 221 true Z h1 ?_)
  refine xlf ?_
  refine CE (i := from_) (j := 16) Z (fun h2 => ?_) (fun h2 => CK ?_)
  rotate_left
  ·exact xnw
  rw [if_pos ⟨h1, h2⟩] at hT'
  have hrl := ok0.rl
  refine xnr ?_
  rintro y3 -
  show VC _ _ _ [pt p (nmCs C ca cc m n0 y3) ndT, rlogH y3.lp n0.log, radH y3.ap C ca cc n0.adm, rrdsH y3.rp n0.rds, slH rsnT 30 y3.oa n0.out.length y3.oc (flat sndC n0.out), pt fb (fgC f (m2.1, ms.length, m2.2)) frT] _
  refine CS ?_
  refine VC.meetS (σ := RL RdR × RL RdR) (fun s => [(0, pV p), (14, .slice s.1.addr s.1.xs.length s.1.cap)]) (fun s => [nqH p C ca cc m n0 y3.lp y3.ap y3.rp, s.1.h rrdT, rlogH y3.lp n0.log, radH y3.ap C ca cc n0.adm, pt y3.rp [.int .i64 n0.rds.cap, .slice s.2.addr s.2.xs.length s.2.cap, .int .i64 n0.rds.last] rrdsT]) (fun s => s.1.Ok rdC 34 ∧ s.2.Ok rdC 34 ∧ s.1.h rrdT = s.2.h rrdT ∧ s.1.xs.map Prod.fst = n0.rds.l.take (rsure f.index n0.rds) ∧ s.2.xs.map Prod.fst = n0.rds.l.drop (rsure f.index n0.rds)) ?_ ?_
  ·refine CD (ts 0 6 (.only 6 (.take 7 .nil))) ym yq ?_
   refine xfr ?_
   refine VA.ent (L' := [rrdsH y3.rp n0.rds, pt p (nmCs C ca cc m n0 y3) ndT, rlogH y3.lp n0.log, radH y3.ap C ca cc n0.adm, slH rsnT 30 y3.oa n0.out.length y3.oc (flat sndC n0.out)]) (pkZ [3, 0, 0, 0, 0]).ent ?_
   refine VA.go (AO (OC (Lc := [rrdsH y3.rp n0.rds]) Z (.refl _) (fun Fr w hF hs hS => rrsure_spec Fr w yd f.index)) Z ?_ ?_)
   ·rintro _ _ ⟨_, ⟨r, r2, hok, hok2, hrr, hrx, hrx2, rfl, rfl⟩, rfl⟩
    exact yr
   rintro _ _ ⟨_, ⟨r, r2, hok, hok2, hrr, hrx, hrx2, rfl, rfl⟩, rfl⟩
   refine xfc ?_
   exact ⟨(r, r2), ⟨hok, hok2, hrr, hrx, hrx2⟩, sbZ, Imp.ent (Imp.nq (n := n0) (y3.oa, y3.oc) (IP 2 Z (IP 4 Z (IP 1 (by rw [hrr]; rfl) (pkZ [1, 1, 0])))))⟩
  rintro ⟨r, r2⟩ ⟨hok, hok2, hrr, hrx, hrx2⟩
  dsimp only at hok hok2 hrr hrx hrx2 ⊢
  obtain ⟨ws, hws⟩ : ∃ ws, ws = n0.rds.l.take (rsure f.index n0.rds) := ⟨_, rfl⟩
  rw [← hws] at hrx
  have hwl : r.xs.length = ws.length := by rw [← hrx, List.length_map]
  have hwl2 : ws.length ≤ 16 := by rw [hws, List.length_take]; omega
  have wcl : ∀ x ∈ ws, 0 ≤ x.f.client ∧ x.f.client ≤ 1000 := fun x hx => by
   rw [hws] at hx
   exact ok0.rcl x (List.mem_of_mem_take hx)
  have hT2 : T = { n0.rets ws with rds := { n0.rds with l := n0.rds.l.drop (rsure f.index n0.rds) } } := by rw [hT', hws]; rfl
  refine xep ?_
  show VC _ _ _ _ _
  refine xjt ?_
  refine VC.loop (σ := Nat) (fun i => [(0, pV p), (14, .slice r.addr r.xs.length r.cap), (15, .int .i64 i)]) (fun i => [nqH p C ca cc m (n0.rets (ws.take i)) y3.lp y3.ap y3.rp, r.h rrdT, rlogH y3.lp n0.log, radH y3.ap C ca cc n0.adm, pt y3.rp [.int .i64 n0.rds.cap, .slice r2.addr r2.xs.length r2.cap, .int .i64 n0.rds.last] rrdsT]) (fun i => i ≤ r.xs.length) (fun i => r.xs.length - i) 0
   (Nat.zero_le _) sbZ (by show Ent _ _ (nqH p C ca cc m (n0.rets []) y3.lp y3.ap y3.rp :: _); rw [rets_nil]; exact ER) ?_
  rintro i hi
  refine xlf ?_
  refine CP (p := (i : Int) < (r.xs.length : Int)) Z (fun h1 => CK ?_) (fun h1 => CX ?_)
  rotate_left
  ·have : i = ws.length := by omega
   subst this
   rw [List.take_length, hrr]
   exact ⟨(), trivial, sbZ, by rw [hT2]; exact Nd.Ent.opn 0 Z (HOpn.nq p C ca cc m (n0.rets ws) y3.lp y3.ap y3.rp) fun x _ => Imp.ent (Imp.nm (n := { n0.rets ws with rds := { n0.rds with l := n0.rds.l.drop (rsure f.index n0.rds) } }) ⟨y3.lp, y3.ap, y3.rp, x.1, x.2⟩ (IP 0 Z (IP 2 Z (IP 2 Z (Imp.rrds r2 ⟨hok2, hrx2⟩ (pkZ [2, 1, 0]))))))⟩
  have h1 : i < r.xs.length := by omega
  obtain ⟨x, hx⟩ : ∃ x, r.xs[i]? = some x := ⟨_, GE h1⟩
  have hxl : ws[i]? = some x.1 := by rw [← hrx, List.getElem?_map, hx]; rfl
  have htk : ws.take (i + 1) = ws.take i ++ [x.1] := by rw [List.take_add_one, hxl]; rfl
  have hxc := wcl x.1 (ME hxl)
  obtain ⟨tb, tof, htb, hta, hrd⟩ := sub_row hok hx
  obtain ⟨tb2, tof2, htb2, hta2, hrd2⟩ := RL.Ok.ld (t := rrdT) hok hx (rdC_len x)
  obtain ⟨rfl, rfl⟩ : tb2 = tb ∧ tof2 = tof := by rw [hta] at hta2; cases hta2; exact ⟨rfl, rfl⟩
  rw [hta]
  refine CS (VC.block (CD (ts 0 24 (.only 24 .nil)) ym yq ?_))
  refine xmx ?_
  refine xmt ?_
  refine xmx ?_
  refine VA.go (VA.load Z Z Z ((hrd2 1 Z).2 _ 3 _ Z Z) ?_)
  refine xmx ?_
  refine xmt ?_
  refine xmx ?_
  refine VA.go (VA.load Z Z Z ((hrd2 1 Z).2 _ 4 _ Z Z) ?_)
  refine xmx ?_
  refine xmt ?_
  refine xmx ?_
  refine VA.go (VA.load Z Z Z ((hrd2 1 Z).2 _ 5 _ Z Z) ?_)
  refine xmx ?_
  refine xmt ?_
  refine xmx ?_
  refine VA.go (VA.load Z Z Z ((hrd 1 Z).2 _ Z Z) ?_)
  refine VA.go (AQ 0 (ψ := fun v H => H = nqH p C ca cc m ((n0.rets (ws.take i)).reply x.1.f.client x.1.f.seq x.1.f.try_ x.1.r) y3.lp y3.ap y3.rp) Z (fun Fr w hF hs _ => nreplyq_spec Fr w y3.lp y3.ap y3.rp (by show (n0.out ++ _).length ≤ _; rw [hout0]; simp; omega) _ _ _ yd yd _) Z Z ybi (fun v H h => by rw [h]; exact yr) ?_)
  rintro _ _ rfl
  refine xfc ?_
  rw [← hta, ← rets_snoc, ← htk]
  show VC _ _ _ _ _
  refine zpm ?_
  exact xnp
 have hT' : T = n0 := by rw [hT, NdM.take0, if_neg k1, if_neg k8, if_neg k4, if_neg k5, if_neg k6, if_neg k10]
 refine CK ?_
 exact ⟨(), trivial, sbZ, miss hT' k8⟩
end
end Nd
namespace Nd
open Go Vg T Api Kv Ch Lg Rd Win Adm Sched Conf Rep Ref16 Rk
variable {C : ConfM} {n : NdM}
def NdM.servesB (C : ConfM) (n : NdM) : Bool := (n.place == 0) && (n.whole && (!n.drains && (decide ((n.log.length : Int) - n.done < C.window) && decide ((n.log.length : Int) < 4096))))
def NdM.nxF (n : NdM) (now : Int) : FrameM := (popV (raExp n.adm now).sch).1
def NdM.nxOk (n : NdM) (now : Int) : Bool := (popV (raExp n.adm now).sch).2.1
def NdM.nx1 (n : NdM) (now : Int) : NdM := ({ n with adm := raNext n.adm now }).refs (n.adm.sch.goneM now) 2
def NdM.nxE (n : NdM) (now : Int) : EntryM := ⟨n.log.length + 1, (n.nxF now).client, (n.nxF now).seq, (n.nxF now).op⟩
def NdM.serve (n : NdM) (now : Int) : NdM :=
 if logErr n.log (n.nxE now) ≠ 0 then NdM.refuse { n.nx1 now with adm := ((raNext n.adm now).barM (n.nxF now).client (n.nxF now).seq (n.nxF now).try_).2 } (n.nxF now) 7
 else NdM.finish { n.nx1 now with log := n.log ++ [n.nxE now] }
def NdM.serveL (C : ConfM) (now : Int) : Nat → NdM → NdM
 | 0, n => n
 | k + 1, n => if n.servesB C = true then (if n.nxOk now = true then NdM.serveL C now k (n.serve now) else n.nx1 now) else n
def NdM.exp1 (n : NdM) (now : Int) : NdM := ({ n with rds := { n.rds with l := n.rds.l.filter (lives now) } }).refs ((n.rds.l.filter fun y => !lives now y).map RdM.f) 2
def NdM.passB (n : NdM) : Bool := n.linked && (decide (n.sent < n.log.length) && decide (n.sent < n.limit))
def NdM.pass1 (n : NdM) : NdM := NdM.send { n with sent := n.sent + 1 } n.next (forwardF n.ch.epoch ((atI n.log (n.sent + 1)).getD entZ))
def NdM.passL : Nat → NdM → NdM
 | 0, n => n
 | k + 1, n => if n.passB = true then NdM.passL k n.pass1 else n
def NdM.step (C : ConfM) (n : NdM) (now : Int) : NdM := NdM.passL 4097 (NdM.serveL C (nowV now) 65 (NdM.exp1 { n with out := [] } (nowV now)))
def NdM.tickA (C : ConfM) (n : NdM) : NdM := ((({ n with out := [] } : NdM).alive).greet C).base
def NdM.tickB (n : NdM) : NdM := if n.linked = true then n.back else n
def NdM.tickC (n : NdM) : NdM := if n.rds.l.isEmpty = true then n else n.send 16 (confirmF n.ch.epoch n.rds.lastI)
def NdM.tickD (n : NdM) : NdM := if n.drains = true ∧ n.done = n.log.length then n.send 16 (drainedF n.ch.epoch) else n
def NdM.tick (C : ConfM) (n : NdM) : NdM := (n.tickA C).tickB.tickC.tickD
theorem RaOk.next {A : AdmM} (k : RaOk C A) (wf : A.sch.Wf) (now : Int) : RaOk C (raNext A now) := by
 have k1 := k.exp now
 have w1 : (raExp A now).sch.Wf := by rw [raExp, (barAll_same _ _).2.2]; exact exp_wf wf now
 refine ⟨k1.cl, k1.marks, k1.c6, ?_⟩
 show (popV (raExp A now).sch).2.2.cls.map ClsM.quantum = _
 unfold popV
 cases hp : (raExp A now).sch.popM with
 | none => exact k1.qs
 | some r => obtain ⟨f, S1⟩ := r; exact (popM_keeps (B := 0 + (raExp A now).sch.cls.foldl (fun b c => max b c.served) 0) w1 k1.qs (fun c hc => by
   have key : ∀ (l : List ClsM) (b : Int), b ≤ l.foldl (fun b c => max b c.served) b ∧ ∀ c ∈ l, c.served ≤ l.foldl (fun b c => max b c.served) b := by
    intro l
    induction l with
    | nil => intro b; exact ⟨Int.le_refl _, fun c hc => by cases hc⟩
    | cons x l ih =>
     intro b
     obtain ⟨i1, i2⟩ := ih (max b x.served)
     refine ⟨by simp only [List.foldl_cons]; omega, fun c hc => ?_⟩
     simp only [List.foldl_cons]
     rcases List.mem_cons.1 hc with rfl | hc
     ·omega
     ·exact i2 c hc
   have := (key (raExp A now).sch.cls 0).2 c hc
   omega) hp).1
theorem raNext_sch (A : AdmM) (now : Int) : (raNext A now).sch = (popV (A.sch.expM now)).2.2 := by
 show (popV (raExp A now).sch).2.2 = _
 rw [raExp, (barAll_same _ _).2.2]; rfl
theorem raNext_wf {A : AdmM} (wf : A.sch.Wf) (now : Int) : (raNext A now).sch.Wf := by rw [raNext_sch]; exact popV_wf (exp_wf wf now)
theorem raExp_sch (A : AdmM) (now : Int) : (raExp A now).sch = A.sch.expM now := by rw [raExp, (barAll_same _ _).2.2]; rfl
theorem few_exp {S : SchM} {B : Int} (h : few S B) (now : Int) : few (S.expM now) B := fun x hx => by
 obtain ⟨y, hy, rfl⟩ := List.mem_map.1 hx
 exact h y hy
theorem few_pop {S : SchM} {B : Int} (wf : S.Wf) (h : few S B) : few (popV S).2.2 (B + 96) := by
 unfold popV
 cases hp : S.popM with
 | none => exact fun c hc => by have := h c hc; show c.served ≤ B + 96; omega
 | some r => obtain ⟨f, S1⟩ := r; exact (popM_keeps wf rfl h hp).2
theorem raNext_few {A : AdmM} {B : Int} (wf : A.sch.Wf) (h : few A.sch B) (now : Int) : few (raNext A now).sch (B + 96) := by rw [raNext_sch]; exact few_pop (exp_wf wf now) (few_exp h now)
theorem raNext_calls {A : AdmM} (wf : A.sch.Wf) (hC : A.Calls) (now : Int) : (raNext A now).Calls := by
 have h := exp_calls2 hC now
 exact pop_calls (n := (raExp A now).clients) ycy h
theorem raNext_tot {A : AdmM} (wf : A.sch.Wf) {now : Int} (ho : (popV (raExp A now).sch).2.1 = true) : tot (raNext A now) < tot A := by
 rw [raExp_sch] at ho
 obtain ⟨k, q, e1, e2⟩ := popV_ok (exp_wf wf now) ho
 have h4 := totQ_set e1
 have h5 := totQ_filter (stay now) A.sch.qs
 rw [← exp_qs] at h5
 unfold tot
 rw [raNext_sch, e2]
 omega
theorem nx_client (k : NdOk C n) (wf : n.adm.sch.Wf) {now : Int} (ho : n.nxOk now = true) : (0 ≤ (n.nxF now).client ∧ (n.nxF now).client < 6) ∧ numM (n.nxF now).seq = true ∧ numM (n.nxF now).try_ = true := by
 obtain ⟨i, q, e1, e2⟩ := popV_ok ycy ho
 have hc := exp_calls2 k.calls now _ (ME e1) (n.nxF now) (by simp [NdM.nxF])
 have h6 := (k.ra.exp now).c6
 exact ⟨⟨hc.1.1, by have := hc.1.2; omega⟩, hc.2⟩
theorem NdOk.adm (k : NdOk C n) {A : AdmM} (ra : RaOk C A) (hC : A.Calls) : NdOk C { n with adm := A } := ⟨k.ms, k.log, k.num, k.logc, ra, hC, k.d0, k.d1, k.s0, k.s1, k.w0, k.w1, k.rl, k.rc, k.rn0, k.rn1, k.rcl⟩
theorem NdOk.out0 (k : NdOk C n) (o : List SndM) : NdOk C { n with out := o } := ⟨k.ms, k.log, k.num, k.logc, k.ra, k.calls, k.d0, k.d1, k.s0, k.s1, k.w0, k.w1, k.rl, k.rc, k.rn0, k.rn1, k.rcl⟩
theorem NdOk.nx1 (k : NdOk C n) (wf : n.adm.sch.Wf) (now : Int) : NdOk C (n.nx1 now) := (k.adm (k.ra.next wf now) (raNext_calls wf k.calls now)).refs _ _
theorem NdOk.serve (k : NdOk C n) (wf : n.adm.sch.Wf) (hl : n.log.length < 4096) (now : Int) : NdOk C (n.serve now) := by
 have k1 := k.nx1 wf now
 unfold NdM.serve
 split
 ·exact (k1.adm ((k.ra.next wf now).bar _ _ _) (barM_calls (raNext_calls wf k.calls now) _ _ _)).send _ _
 ·rename_i h; exact (k1.logApp (e := n.nxE now) hl (by show logErr n.log _ = 0; omega)).finish
theorem serve_adm (n : NdM) (now : Int) : (n.serve now).adm.sch = (raNext n.adm now).sch := by
 unfold NdM.serve
 split
 ·exact (barM_same _ _ _ _).2.2
 ·unfold NdM.finish; split <;> rfl
theorem serve_ch (n : NdM) (now : Int) : (n.serve now).ch = n.ch := by
 unfold NdM.serve
 split
 ·rfl
 ·rw [finish_ch]; rfl
theorem gone_len {S : SchM} (wf : S.Wf) (now : Int) : (S.goneM now).length ≤ 64 := by have := wf.fewG S.cls.length now; rw [List.take_length] at this; exact this
theorem nx1_out (wf : n.adm.sch.Wf) (now : Int) : (n.nx1 now).out.length ≤ n.out.length + 64 := by
 have := gone_len wf now
 show (n.out ++ _).length ≤ _
 rw [List.length_append, List.length_map]; omega
theorem serve_out (k : NdOk C n) (wf : n.adm.sch.Wf) (hl : n.log.length < 4096) (now : Int) : (n.serve now).out.length ≤ n.out.length + 4160 := by
 have h1 := nx1_out wf now
 unfold NdM.serve
 split
 ·show ((n.nx1 now).out ++ [_]).length ≤ _
  rw [List.length_append]; simp; omega
 ·rename_i h
  have h2 := finish_out ((k.nx1 wf now).logApp (e := n.nxE now) hl (by show logErr n.log _ = 0; omega))
  have h3 : ({ n.nx1 now with log := n.log ++ [n.nxE now] } : NdM).out.length = (n.nx1 now).out.length := rfl
  have h4 : ({ n.nx1 now with log := (n.nx1 now).log ++ [n.nxE now] } : NdM) = { n.nx1 now with log := n.log ++ [n.nxE now] } := rfl
  rw [h4] at h2
  omega
theorem serves_log (h : n.servesB C = true) : n.log.length < 4096 := by
 simp only [NdM.servesB, Bool.and_eq_true, decide_eq_true_eq] at h
 have := h.2.2.2.2
 omega
structure NdW (C : ConfM) (B : Int) (n : NdM) : Prop where
 ok : NdOk C n
 wf : n.adm.sch.Wf
 few : few n.adm.sch B
theorem few_mono {S : SchM} {B D : Int} (h : few S B) (hBD : B ≤ D) : few S D := fun c hc => by have := h c hc; omega
theorem NdW.serve {B : Int} (k : NdW C B n) (hl : n.log.length < 4096) (now : Int) : NdW C (B + 96) (n.serve now) :=
 ⟨k.ok.serve k.wf hl now, by rw [serve_adm]; exact raNext_wf k.wf now, by rw [serve_adm]; exact raNext_few k.wf k.few now⟩
theorem NdW.nx1 {B : Int} (k : NdW C B n) (now : Int) : NdW C (B + 96) (n.nx1 now) := ⟨k.ok.nx1 k.wf now, raNext_wf k.wf now, raNext_few k.wf k.few now⟩
theorem NdW.serveL (now : Int) : ∀ (i : Nat) {n : NdM} {B : Int}, NdW C B n → NdW C (B + 96 * i) (NdM.serveL C now i n) ∧ (NdM.serveL C now i n).out.length ≤ n.out.length + 4160 * i ∧ (NdM.serveL C now i n).ch = n.ch
 | 0, n, B, k => by simpa [NdM.serveL] using k
 | i + 1, n, B, k => by
  unfold NdM.serveL
  split
  ·rename_i h
   have hl := serves_log h
   split
   ·obtain ⟨a, b, c⟩ := NdW.serveL now i (k.serve hl now)
    have h1 := serve_out k.ok k.wf hl now
    refine ⟨⟨a.ok, a.wf, few_mono a.few yd⟩, by omega, by rw [c, serve_ch]⟩
   ·have h1 := nx1_out k.wf now
    have a := k.nx1 now
    exact ⟨⟨a.ok, a.wf, few_mono a.few yd⟩, by omega, Z⟩
  ·exact ⟨⟨k.ok, k.wf, few_mono k.few yd⟩, by omega, Z⟩
theorem NdOk.exp1 (k : NdOk C n) (now : Int) : NdOk C (n.exp1 now) := by
 have h := List.length_filter_le (lives now) n.rds.l
 have h1 := k.rl
 exact NdOk.refs (n := { n with rds := { n.rds with l := n.rds.l.filter (lives now) } }) ⟨k.ms, k.log, k.num, k.logc, k.ra, k.calls, k.d0, k.d1, k.s0, k.s1, k.w0, k.w1, by show (n.rds.l.filter (lives now)).length ≤ 16; omega, k.rc, k.rn0, k.rn1, fun x hx => k.rcl x (List.mem_filter.1 hx).1⟩ _ _
theorem NdOk.pass1 (k : NdOk C n) (h : n.passB = true) : NdOk C n.pass1 := by
 simp only [NdM.passB, Bool.and_eq_true, decide_eq_true_eq] at h
 have := k.s0
 exact NdOk.send (n := { n with sent := n.sent + 1 }) ⟨k.ms, k.log, k.num, k.logc, k.ra, k.calls, k.d0, k.d1, by show 0 ≤ n.sent + 1; omega, by show n.sent + 1 ≤ (n.log.length : Int); omega, k.w0, k.w1, k.rl, k.rc, k.rn0, k.rn1, k.rcl⟩ _ _
theorem NdW.passL : ∀ (i : Nat) {n : NdM} {B : Int}, NdW C B n → NdW C B (NdM.passL i n) ∧ (NdM.passL i n).ch = n.ch
 | 0, n, B, k => ⟨k, rfl⟩
 | i + 1, n, B, k => by
  unfold NdM.passL
  split
  ·rename_i h
   obtain ⟨a, b⟩ := NdW.passL i (n := n.pass1) (B := B) ⟨k.ok.pass1 h, k.wf, k.few⟩
   exact ⟨a, b⟩
  ·exact ⟨k, Z⟩
theorem NdW.exp1 {B : Int} (k : NdW C B n) (now : Int) : NdW C B (n.exp1 now) := ⟨k.ok.exp1 now, k.wf, k.few⟩
theorem NdW.step {B : Int} (k : NdW C B n) (now : Int) : NdW C (B + 6240) (n.step C now) := by
 have k0 : NdW C B ({ n with out := [] } : NdM) := ⟨k.ok.out0 _, k.wf, k.few⟩
 have := (NdW.serveL (nowV now) 65 (k0.exp1 (nowV now))).1
 exact (NdW.passL 4097 (by simpa using this)).1
theorem step_ch {B : Int} (k : NdW C B n) (now : Int) : (n.step C now).ch = n.ch := by
 have k0 : NdW C B ({ n with out := [] } : NdM) := ⟨k.ok.out0 _, k.wf, k.few⟩
 have h := NdW.serveL (nowV now) 65 (k0.exp1 (nowV now))
 show (NdM.passL 4097 _).ch = _
 rw [(NdW.passL 4097 h.1).2, h.2.2]; rfl
theorem NdOk.back (k : NdOk C n) : NdOk C n.back := by
 have h0 : 0 ≤ backV n.have_ n.log.length := by rw [backV_eq]; omega
 have h1 : backV n.have_ n.log.length ≤ n.log.length := by rw [backV_eq]; omega
 exact ⟨k.ms, k.log, k.num, k.logc, k.ra, k.calls, k.d0, k.d1, h0, h1, k.w0, k.w1, k.rl, k.rc, k.rn0, k.rn1, k.rcl⟩
theorem NdOk.tickA (k : NdOk C n) : NdOk C (n.tickA C) := (((k.out0 []).send _ _).greet).base
theorem NdOk.tickB (k : NdOk C n) : NdOk C n.tickB := by unfold NdM.tickB; split; exact k.back; exact k
theorem NdOk.tickC (k : NdOk C n) : NdOk C n.tickC := by unfold NdM.tickC; split; exact k; exact k.send _ _
theorem tickA_adm (C : ConfM) (n : NdM) : (n.tickA C).adm = n.adm ∧ (n.tickA C).ch = n.ch ∧ (n.tickA C).out.length ≤ 3 := by
 have e1 : ∀ n : NdM, (n.greet C).adm = n.adm ∧ (n.greet C).ch = n.ch := fun n => by unfold NdM.greet; split <;> exact ⟨rfl, rfl⟩
 have e2 : ∀ n : NdM, n.base.adm = n.adm ∧ n.base.ch = n.ch := fun n => by unfold NdM.base; split <;> exact ⟨rfl, rfl⟩
 unfold NdM.tickA
 refine ⟨by rw [(e2 _).1, (e1 _).1]; rfl, by rw [(e2 _).2, (e1 _).2]; rfl, ?_⟩
 have h1 := base_out (((({ n with out := [] } : NdM).alive)).greet C)
 have h2 := greet_out C (({ n with out := [] } : NdM).alive)
 have h3 : (({ n with out := [] } : NdM).alive).out.length = 1 := rfl
 omega
theorem tickR_adm (n : NdM) : n.tickB.tickC.tickD.adm = n.adm ∧ n.tickB.tickC.tickD.ch = n.ch := by
 have e1 : n.tickB.adm = n.adm ∧ n.tickB.ch = n.ch := by unfold NdM.tickB; split <;> exact ⟨rfl, rfl⟩
 have e2 : ∀ n : NdM, n.tickC.adm = n.adm ∧ n.tickC.ch = n.ch := fun n => by unfold NdM.tickC; split <;> exact ⟨rfl, rfl⟩
 have e3 : ∀ n : NdM, n.tickD.adm = n.adm ∧ n.tickD.ch = n.ch := fun n => by unfold NdM.tickD; split <;> exact ⟨rfl, rfl⟩
 exact ⟨by rw [(e3 _).1, (e2 _).1, e1.1], by rw [(e3 _).2, (e2 _).2, e1.2]⟩
theorem tick_ch (C : ConfM) (n : NdM) : (n.tick C).ch = n.ch := by unfold NdM.tick; rw [(tickR_adm _).2, (tickA_adm C n).2.1]
end Nd
namespace Rep
open Go Vg T Api Kv Ch Lg Rd Win Adm Sched Conf
def chT2 : ChM := ⟨1, [(0, 1), (1, 1)], -1⟩
theorem chT2_is : headOf chT2 = 0 ∧ tailOf chT2 = 1 ∧ prevOf chT2 1 = 0 ∧ nextOf chT2 0 = 1 ∧ prevOf chT2 0 = -1 ∧ nextOf chT2 1 = -1 ∧ sinceOf chT2 0 = (1, true) ∧ sinceOf chT2 1 = (1, true) := by decide +kernel
end Rep
namespace Adm
open Go Vg Api Sched Conf
theorem has_iff (A : AdmM) (k : Int) : A.has k = true ↔ 0 ≤ k ∧ k < A.clients := by simp [AdmM.has]
theorem mark_setMark {A : AdmM} (h : A.Wf) {k j : Int} (hk : 0 ≤ k ∧ k < 6) (hj : 0 ≤ j) (m : MkM) : (A.setMark k m).mark j = if j = k then m else A.mark j := by
 obtain ⟨n, rfl⟩ := Int.eq_ofNat_of_zero_le hk.1
 obtain ⟨i, rfl⟩ := Int.eq_ofNat_of_zero_le hj
 have hn : n < A.marks.length := by rw [h.marks]; omega
 simp only [AdmM.mark, AdmM.setMark, Int.toNat_natCast]
 by_cases e : i = n
 ·subst e; simp [List.getElem?_set_self hn]
 ·rw [if_neg yd, List.getElem?_set_ne yd]
theorem wt_setWt {A : AdmM} (h : A.Wf) {k j : Int} (hk : 0 ≤ k ∧ k < 6) (hj : 0 ≤ j) (m : Int) : (A.setWt k m).wt j = if j = k then m else A.wt j := by
 obtain ⟨n, rfl⟩ := Int.eq_ofNat_of_zero_le hk.1
 obtain ⟨i, rfl⟩ := Int.eq_ofNat_of_zero_le hj
 have hn : n < A.waits.length := by rw [h.waits]; omega
 simp only [AdmM.wt, AdmM.setWt, Int.toNat_natCast]
 by_cases e : i = n
 ·subst e; simp [List.getElem?_set_self hn]
 ·rw [if_neg yd, List.getElem?_set_ne yd]
theorem offer_in {A : AdmM} {f : FrameM} {now : Int} (h0 : (A.offerM f now).1 = 0) : A.may f = true ∧ A.barred f.client f.seq f.try_ = false ∧ A.wt f.client = 0 ∧ ¬ f.deadline < now ∧ (A.sch.pushM f).1 = 0 ∧ (A.offerM f now).2 = (A.withSch (A.sch.pushM f).2).setWt f.client f.seq := by
 unfold AdmM.offerM at h0 ⊢
 by_cases hm : A.may f = true
 ·rw [if_pos hm] at h0 ⊢
  by_cases hc : (A.waitM f now).1 ≠ 0 ∧ (A.waitM f now).1 ≠ 6
  ·rw [if_pos hc] at h0; exact absurd h0 hc.1
  ·rw [if_neg hc] at h0 ⊢
   unfold AdmM.waitM at h0 ⊢
   by_cases hb : A.barred f.client f.seq f.try_ = true
   ·rw [if_pos hb] at h0; cases h0
   rw [if_neg hb] at h0 ⊢
   by_cases hs : A.wt f.client = f.seq
   ·rw [if_pos hs] at h0; cases h0
   rw [if_neg hs] at h0 ⊢
   by_cases hz : A.wt f.client ≠ 0
   ·rw [if_pos hz] at h0; cases h0
   rw [if_neg hz] at h0 ⊢
   by_cases hd : f.deadline < now
   ·rw [if_pos hd] at h0; cases h0
   rw [if_neg hd] at h0 ⊢
   by_cases hp : (A.sch.pushM f).1 ≠ 0
   ·rw [if_pos hp] at h0; cases h0
   rw [if_neg hp]
   exact ⟨hm, by simpa using hb, by simpa using hz, hd, by simpa using hp, Z⟩
 ·rw [if_neg hm] at h0; cases h0
theorem push_same {S : SchM} {f : FrameM} (h : (S.pushM f).1 ≠ 0) : (S.pushM f).2 = S := by
 unfold SchM.pushM at h ⊢
 split
 ·rfl
 ·rename_i c hc
  rw [hc] at h
  dsimp only at h
  split
  ·rfl
  ·rename_i h1
   rw [if_neg h1] at h
   split
   ·rename_i h2; rw [if_pos h2] at h; exact absurd rfl h
   ·rfl
theorem offer_not {A : AdmM} {f : FrameM} (now : Int) (h0 : (A.offerM f now).1 ≠ 0) : (A.offerM f now).2.sch = A.sch ∧ (A.offerM f now).2.waits = A.waits := by
 have key : (A.waitM f now).1 ≠ 0 → (A.waitM f now).2.sch = A.sch ∧ (A.waitM f now).2.waits = A.waits := by
  unfold AdmM.waitM
  intro h
  repeat' split
  all_goals first
   | exact ⟨rfl, rfl⟩
   | (rename_i hp; exact ⟨push_same hp, rfl⟩)
   | (simp_all)
 unfold AdmM.offerM at h0 ⊢
 by_cases hm : A.may f = true
 ·rw [if_pos hm] at h0 ⊢
  by_cases hc : (A.waitM f now).1 ≠ 0 ∧ (A.waitM f now).1 ≠ 6
  ·rw [if_pos hc]
   have := key hc.1
   refine ⟨(barM_sch _ _ _ _).trans this.1, ?_⟩
   rw [← this.2]
   show (AdmM.barM _ _ _ _).2.waits = _
   unfold AdmM.barM
   split
   ·exact barF_waits _ _ _ _
   ·rfl
  ·rw [if_neg hc] at h0 ⊢
   exact key h0
 ·rw [if_neg hm]; exact ⟨rfl, rfl⟩
end Adm
namespace Adm
open Go Vg Api Sched Conf
theorem nodup_same {α β : Type} {g : α → β} : ∀ {l : List α}, (l.map g).Nodup → ∀ {a b : α}, a ∈ l → b ∈ l → g a = g b → a = b
 | [], _, a, _, ha, _, _ => by simp at ha
 | x :: l, h, a, b, ha, hb, e => by
  rw [List.map_cons, List.nodup_cons] at h
  rcases List.mem_cons.1 ha with rfl | ha2
  ·rcases List.mem_cons.1 hb with rfl | hb2
   ·rfl
   ·exact absurd (List.mem_map.2 ⟨b, hb2, e.symm⟩ : _ ∈ l.map g) h.1
  ·rcases List.mem_cons.1 hb with rfl | hb2
   ·exact absurd (List.mem_map.2 ⟨a, ha2, e⟩ : _ ∈ l.map g) h.1
   ·exact nodup_same h.2 ha2 hb2 e
theorem flat_snoc {α : Type} {f : α} : ∀ {l : List (List α)} {k : Nat} {q : List α}, l[k]? = some q → (l.set k (q ++ [f])).flatten.Perm (f :: l.flatten)
 | x :: l, 0, q, h => by
  obtain rfl : x = q := by simpa using h
  rw [List.set_cons_zero, List.flatten_cons, List.flatten_cons, List.append_assoc]
  exact List.perm_middle
 | x :: l, k + 1, q, h => by
  rw [List.set_cons_succ, List.flatten_cons, List.flatten_cons]
  exact ((flat_snoc (l := l) (k := k) yb).append_left x).trans List.perm_middle
 | [], _, _, h => by simp at h
theorem flat_head {α : Type} {f : α} : ∀ {l : List (List α)} {k : Nat} {q : List α}, l[k]? = some (f :: q) → l.flatten.Perm (f :: (l.set k q).flatten)
 | x :: l, 0, q, h => by
  obtain rfl : x = f :: q := by simpa using h
  rw [List.set_cons_zero, List.flatten_cons, List.flatten_cons]
  exact .refl _
 | x :: l, k + 1, q, h => by
  rw [List.set_cons_succ, List.flatten_cons, List.flatten_cons]
  exact ((flat_head (l := l) (k := k) yb).append_left x).trans List.perm_middle
 | [], _, _, h => by simp at h
def AdmM.all (A : AdmM) : List FrameM := A.sch.qs.flatten
structure SInv (nc : Int) (m cap : Nat) (A : AdmM) : Prop where
 wf : A.Wf
 clients : A.clients = nc
 len : A.sch.cls.length = m
 cap : A.sch.cap = cap
 may : ∀ f ∈ A.all, A.may f = true
 uniq : (A.all.map FrameM.client).Nodup
 wt : ∀ f ∈ A.all, A.wt f.client = f.seq
 back : ∀ k, 0 ≤ k → k < nc → A.wt k ≠ 0 → ∃ f ∈ A.all, f.client = k
theorem may_congr {A B : AdmM} (h1 : B.clients = A.clients) (h2 : B.sch.cls.length = A.sch.cls.length) (f : FrameM) : B.may f = A.may f := by
 simp only [AdmM.may, AdmM.has, h1, h2]
theorem SInv.range {nc : Int} {m cap : Nat} {A : AdmM} (h : SInv nc m cap A) {f : FrameM} (hf : f ∈ A.all) : 0 ≤ f.client ∧ f.client < nc := by
 obtain ⟨h1, _, _⟩ := may_client (h.may f hf)
 have := (has_iff _ _).1 h1
 rw [h.clients] at this; exact this
theorem SInv.seq {nc : Int} {m cap : Nat} {A : AdmM} (h : SInv nc m cap A) {f : FrameM} (hf : f ∈ A.all) : f.seq ≠ 0 := by
 obtain ⟨_, h2, _⟩ := may_client (h.may f hf)
 simp only [numM, Bool.and_eq_true, decide_eq_true_eq] at h2
 omega
theorem SInv.six {nc : Int} {m cap : Nat} {A : AdmM} (h : SInv nc m cap A) : nc ≤ 6 := by have := h.wf.c1; rw [h.clients] at this; exact this
theorem SInv.same {nc : Int} {m cap : Nat} {A B : AdmM} (h : SInv nc m cap A) (hw : B.Wf) (hc : B.clients = A.clients) (hs : B.sch = A.sch) (hwt : B.waits = A.waits) : SInv nc m cap B := by
 have hall : B.all = A.all := by rw [AdmM.all, AdmM.all, hs]
 have hwt2 : ∀ k, B.wt k = A.wt k := fun k => by rw [AdmM.wt, AdmM.wt, hwt]
 refine ⟨hw, hc.trans h.clients, by rw [hs]; exact h.len, by rw [hs]; exact h.cap, fun f hf => ?_, by rw [hall]; exact h.uniq, fun f hf => ?_, fun k h1 h2 h3 => ?_⟩
 ·rw [may_congr (A := A) hc (by rw [hs])]; exact h.may f (hall ▸ hf)
 ·rw [hwt2]; exact h.wt f (hall ▸ hf)
 ·rw [hwt2] at h3; rw [hall]; exact h.back k h1 h2 h3
theorem SInv.offer {nc : Int} {m cap : Nat} {A : AdmM} (h : SInv nc m cap A) (f : FrameM) (now : Int) : SInv nc m cap (A.offerM f now).2 := by
 by_cases h0 : (A.offerM f now).1 = 0
 ·obtain ⟨hm, hb, hz, hd, hp, e⟩ := offer_in h0
  obtain ⟨h1, h2, h3⟩ := may_client hm
  obtain ⟨⟨k, hk, hlt⟩, ho⟩ := may_cls hm
  have hr := (has_iff _ _).1 h1
  have h6 := h.six
  have hr6 : 0 ≤ f.client ∧ f.client < 6 := ⟨hr.1, by have := h.clients; omega⟩
  have hq : A.sch.qs[k]? = some (A.sch.cls[k].q) := by simp [SchM.qs, GE hlt]
  obtain ⟨p1, p2, p3⟩ := push_qs hk hq ho
  have hlt2 : (A.sch.cls[k].q).length < A.sch.cap := by
   apply Decidable.byContradiction
   intro hn; rw [if_neg hn] at p1; rw [p1] at hp; cases hp
  rw [if_pos hlt2] at p2
  have hperm : ((A.offerM f now).2).all.Perm (f :: A.all) := by
   rw [e]; show (A.sch.pushM f).2.qs.flatten.Perm _
   rw [p2]; exact flat_snoc hq
  have hwf := offer_wf h.wf f now
  have hcl := offer_clients A f now
  have hlen : (A.offerM f now).2.sch.cls.length = A.sch.cls.length := by rw [e]; exact push_len A.sch f
  have hwt : ∀ j, 0 ≤ j → (A.offerM f now).2.wt j = if j = f.client then f.seq else A.wt j := fun j hj => by
   rw [e, wt_setWt (h.wf.withSch (push_wf h.wf.sch f)) hr6 hj]; rfl
  have hnew : ∀ g ∈ A.all, g.client ≠ f.client := fun g hg e2 => by
   have := h.wt g hg
   rw [e2, hz] at this
   exact h.seq hg this.symm
  refine ⟨hwf, hcl.trans h.clients, hlen.trans h.len, by rw [e]; exact p3.trans h.cap, fun g hg => ?_, ?_, fun g hg => ?_, fun j hj hj2 hj3 => ?_⟩
  ·rw [may_congr (A := A) hcl hlen]
   rcases List.mem_cons.1 (hperm.mem_iff.1 hg) with rfl | hg
   ·exact hm
   ·exact h.may g hg
  ·rw [(hperm.map FrameM.client).nodup_iff, List.map_cons, List.nodup_cons]
   refine ⟨fun hmem => ?_, h.uniq⟩
   obtain ⟨g, hg, e2⟩ := List.mem_map.1 hmem
   exact hnew g hg e2
  ·rcases List.mem_cons.1 (hperm.mem_iff.1 hg) with rfl | hg
   ·rw [hwt _ hr.1, if_pos rfl]
   ·rw [hwt _ (h.range hg).1, if_neg (hnew g hg)]; exact h.wt g hg
  ·rw [hwt j hj] at hj3
   by_cases ej : j = f.client
   ·exact ⟨f, hperm.mem_iff.2 ya, ej.symm⟩
   ·rw [if_neg ej] at hj3
    obtain ⟨g, hg, e2⟩ := h.back j hj hj2 hj3
    exact ⟨g, hperm.mem_iff.2 yi, e2⟩
 ·obtain ⟨h1, h2⟩ := offer_not now h0
  exact h.same (offer_wf h.wf f now) (offer_clients A f now) h1 h2
theorem expF_wt : ∀ (l : List FrameM) {A : AdmM}, A.Wf → (∀ f ∈ l, 0 ≤ f.client ∧ f.client < 6) → ∀ {j : Int}, 0 ≤ j → (A.expF l).wt j = if (l.any fun f => f.client == j) = true then 0 else A.wt j
 | [], A, _, _, j, _ => by simp [AdmM.expF]
 | f :: l, A, h, hf, j, hj => by
  have ih := expF_wt l (h.out f) (fun g hg => hf g yi) hj
  have e1 : (A.out f).wt j = if j = f.client then 0 else A.wt j := by
   rw [← wt_setWt h (hf f ya) hj 0]
   simp only [AdmM.wt, AdmM.out, barF_waits]
  show (AdmM.expF (A.out f) l).wt j = _
  rw [ih, e1, List.any_cons]
  by_cases e : f.client = j
  ·subst e; simp
  ·have : (f.client == j) = false := by simpa using e
   rw [this, Bool.false_or, if_neg (show ¬ j = f.client from fun x => e x.symm)]
theorem all_exp {A : AdmM} (h : A.Wf) (now : Int) : (A.expireM now).all = A.all.filter (stay now) := by
 rw [AdmM.all, (expire_wf h now).2.2, exp_qs, AdmM.all, List.filter_flatten]
theorem gone_all (A : AdmM) (now : Int) : A.sch.goneM now = A.all.filter (gone now) := by
 rw [gone_qs, AdmM.all, List.filter_flatten, List.flatMap_def]
theorem SInv.expire {nc : Int} {m cap : Nat} {A : AdmM} (h : SInv nc m cap A) (now : Int) : SInv nc m cap (A.expireM now) := by
 obtain ⟨hwf, hcl, hs⟩ := expire_wf h.wf now
 have h6 := h.six
 have hall := all_exp h.wf now
 have hlen : (A.expireM now).sch.cls.length = A.sch.cls.length := by rw [hs]; exact exp_len _ _
 have hg6 : ∀ f ∈ A.sch.goneM now, 0 ≤ f.client ∧ f.client < 6 := fun f hf => by
  rw [gone_all] at hf
  have := h.range (List.mem_filter.1 hf).1
  omega
 have hwt : ∀ j, 0 ≤ j → (A.expireM now).wt j = if ((A.sch.goneM now).any fun f => f.client == j) = true then 0 else A.wt j := fun j hj =>
  expF_wt _ (h.wf.withSch (exp_wf h.wf.sch now)) hg6 hj
 refine ⟨hwf, hcl.trans h.clients, hlen.trans h.len, by rw [hs]; exact h.cap, fun f hf => ?_, ?_, fun f hf => ?_, fun k hk hk2 hk3 => ?_⟩
 ·rw [may_congr (A := A) hcl hlen]
  rw [hall] at hf
  exact h.may f (List.mem_filter.1 hf).1
 ·rw [hall]
  exact h.uniq.sublist (List.filter_sublist.map _)
 ·rw [hall] at hf
  obtain ⟨hf1, hf2⟩ := List.mem_filter.1 hf
  rw [hwt _ (h.range hf1).1, if_neg]
  ·exact h.wt f hf1
  ·intro ha
   obtain ⟨g, hg, e⟩ := List.any_eq_true.1 ha
   rw [gone_all] at hg
   obtain ⟨hg1, hg2⟩ := List.mem_filter.1 hg
   have : g = f := nodup_same h.uniq hg1 hf1 (eq_of_beq e)
   subst this
   simp [stay, hg2] at hf2
 ·rw [hwt k hk] at hk3
  split at hk3
  ·exact absurd Z hk3
  ·rename_i hn
   obtain ⟨f, hf, e⟩ := h.back k hk hk2 hk3
   refine ⟨f, ?_, e⟩
   rw [hall]
   refine List.mem_filter.2 ⟨hf, ?_⟩
   cases hgf : gone now f with
   | false => simp [stay, hgf]
   | true => exact absurd (List.any_eq_true.2 ⟨f, by rw [gone_all]; exact List.mem_filter.2 ⟨hf, hgf⟩, by simp [e]⟩) hn
theorem SInv.next {nc : Int} {m cap : Nat} {A : AdmM} (h : SInv nc m cap A) (now : Int) : SInv nc m cap (A.nextM now) := by
 have h := h.expire now
 unfold AdmM.nextM
 generalize A.expireM now = B at h ⊢
 have h6 := h.six
 cases ho : (popV B.sch).2.1 with
 | false =>
  obtain ⟨_, e⟩ := popV_no h.wf.sch ho
  rw [if_neg ya]
  exact h.same (h.wf.withSch (popV_wf h.wf.sch)) Z e rfl
 | true =>
  rw [if_pos rfl]
  obtain ⟨k, q, hk, hq⟩ := popV_ok h.wf.sch ho
  have hcap : (popV B.sch).2.2.cap = B.sch.cap := by
   unfold popV at ho ⊢
   cases hp : B.sch.popM with
   | none => rfl
   | some r => obtain ⟨f, S1⟩ := r; obtain ⟨_, _, _, _, hc, _⟩ := popM_some h.wf.sch hp; exact hc
  generalize (popV B.sch).1 = g at hk ⊢
  have hperm : B.all.Perm (g :: (popV B.sch).2.2.qs.flatten) := by rw [hq]; exact flat_head hk
  have hg : g ∈ B.all := hperm.mem_iff.2 ya
  have hgr := h.range hg
  have hg6 : 0 ≤ g.client ∧ g.client < 6 := by omega
  have hlen := popV_len h.wf.sch
  have hW : ((B.withSch (popV B.sch).2.2).setWt g.client 0).all = (popV B.sch).2.2.qs.flatten := rfl
  have hu := (hperm.map FrameM.client).nodup_iff.1 h.uniq
  rw [List.map_cons, List.nodup_cons] at hu
  have hwf := (h.wf.withSch (popV_wf h.wf.sch))
  have hwt : ∀ j, 0 ≤ j → ((B.withSch (popV B.sch).2.2).setWt g.client 0).wt j = if j = g.client then 0 else B.wt j := fun j hj => by
   rw [wt_setWt hwf hg6 hj]; rfl
  refine ⟨hwf.setWt _ _, h.clients, hlen.trans h.len, hcap.trans h.cap, fun f hf => ?_, hu.2, fun f hf => ?_, fun j hj hj2 hj3 => ?_⟩
  ·rw [may_congr (A := B) (B := (B.withSch (popV B.sch).2.2).setWt g.client 0) rfl hlen]
   exact h.may f (hperm.mem_iff.2 (List.mem_cons_of_mem _ hf))
  ·have hf2 : f ∈ B.all := hperm.mem_iff.2 (List.mem_cons_of_mem _ hf)
   rw [hwt _ (h.range hf2).1, if_neg (fun e => hu.1 (List.mem_map.2 ⟨f, hf, e⟩))]
   exact h.wt f hf2
  ·rw [hwt j hj] at hj3
   split at hj3
   ·exact absurd Z hj3
   ·rename_i hn
    obtain ⟨f, hf, e⟩ := h.back j hj hj2 hj3
    rcases List.mem_cons.1 (hperm.mem_iff.1 hf) with rfl | hf
    ·exact absurd e.symm hn
    ·exact ⟨f, hf, e⟩
theorem SInv.start (c : ConfM) : SInv (fitM c).clients (fitM c).qs.length (fitM c).queue.toNat (newA (fitM c)) := by
 have hall : (newA (fitM c)).all = [] := by
  have : ∀ l : List Int, (l.map fun _ => ([] : List FrameM)).flatten = [] := fun l => by induction l <;> simp_all
  show ((SchM.new (fitM c).qs (fitM c).queue).cls.map ClsM.q).flatten = []
  simp only [SchM.new, List.map_map]
  exact this _
 refine ⟨newA_wf (fit_idem c), Z, by simp [newA, SchM.new], Z, fun f hf => ?_, ?_, fun f hf => ?_, fun k h1 h2 h3 => ?_⟩
 ·rw [hall] at hf; simp at hf
 ·rw [hall]; simp
 ·rw [hall] at hf; simp at hf
 ·exfalso; apply h3
  simp only [AdmM.wt, newA]
  cases hk : (List.replicate 6 (0 : Int))[k.toNat]? with
  | none => rfl
  | some v => exact List.eq_of_mem_replicate (ME hk)
end Adm
namespace Rep
open Go Vg T Api Kv Ch Lg Rd Win Adm Sched Conf
def SI (A : AdmM) : Prop := ∃ nc m cap, SInv nc m cap A
theorem SI.offer {A : AdmM} (h : SI A) (f : FrameM) (now : Int) : SI (A.offerM f now).2 := by
 obtain ⟨nc, m, cap, h⟩ := h; exact ⟨nc, m, cap, h.offer f now⟩
theorem SI.next {A : AdmM} (h : SI A) (now : Int) : SI (A.nextM now) := by
 obtain ⟨nc, m, cap, h⟩ := h; exact ⟨nc, m, cap, h.next now⟩
theorem barM_waits (A : AdmM) (k s t : Int) : (A.barM k s t).2.waits = A.waits := by
 unfold AdmM.barM; split; exact barF_waits _ _ _ _; rfl
theorem SI.bar {A : AdmM} (h : SI A) (k s t : Int) : SI (A.barM k s t).2 := by
 obtain ⟨nc, m, cap, h⟩ := h
 exact ⟨nc, m, cap, h.same (h.wf.barM _ _ _) (barM_clients A k s t) (barM_sch A k s t) (barM_waits A k s t)⟩
def LogOk (es : List EntryM) : Prop := ∀ (k : Nat) (e : EntryM), es[k]? = some e → logErr (es.take k) e = 0
theorem LogOk.snoc {es : List EntryM} (h : LogOk es) {e : EntryM} (he : logErr es e = 0) : LogOk (es ++ [e]) := by
 intro k x hx
 by_cases hk : k < es.length
 ·rw [List.getElem?_append_left hk] at hx
  rw [List.take_append_of_le_length yd]
  exact h k x hx
 ·by_cases hk2 : k = es.length
  ·subst hk2
   rw [List.getElem?_append_right (NR _), Nat.sub_self] at hx
   obtain rfl : e = x := by simpa using hx
   rw [List.take_append_of_le_length (NR _), List.take_length]; exact he
  ·rw [List.getElem?_eq_none ybw] at hx; cases hx
theorem LogOk.idx {es : List EntryM} (h : LogOk es) {k : Nat} {e : EntryM} (he : es[k]? = some e) : e.index = k + 1 := by
 have hk := (List.getElem?_eq_some_iff.1 he).1
 have := (logErr_ok (h k e he)).2.2.1
 rw [List.length_take, Nat.min_eq_left yd] at this
 exact this
theorem pre_at {a b : List EntryM} (h : a <+: b) {k : Nat} {e : EntryM} (he : a[k]? = some e) : b[k]? = some e := by
 obtain ⟨c, rfl⟩ := h
 rw [List.getElem?_append_left (List.getElem?_eq_some_iff.1 he).1]; exact he
structure HdI (W : Int) (seq : Nat) (R : RepM) : Prop where
 fit : R.Fit
 ch : R.ch = chT2
 id : R.id = 0
 since : R.since = 1
 whole : R.whole = true
 rl : R.rds.l = []
 rlast : R.rds.last = 0
 lok : LogOk R.log
 ahead : R.win.last ≤ R.win.done + R.win.cap
 cap : R.win.cap = W
 si : SI R.adm
 cl : ∀ f ∈ R.adm.all, f.client = 0
 cnt : R.log.length + R.adm.all.length ≤ seq
theorem HdI.next {W : Int} {n : Nat} {R : RepM} (h : HdI W n R) : R.nextM = 1 := by rw [RepM.nextM, h.ch, h.id, chT2_is.2.2.2.1]
theorem upd_form (R : RepM) (f : FrameM) (now : Int) : ∃ A, (updateR R f now).1 = { R with adm := A } ∧ (A = R.adm ∨ A = (R.adm.offerM f now).2 ∨ ∃ k s t, A = (R.adm.barM k s t).2 ∨ A = ((R.adm.offerM f now).2.barM k s t).2) ∧ ∀ m ∈ (updateR R f now).2, m.1 = 32 + f.client := by
 have hj := judge_adm R f now
 unfold updateR
 generalize judgeM R f now = J at hj ⊢
 repeat' split
 ·exact xnz
 ·exact ⟨_, Z, hj.elim .inl fun h => .inr (.inl h), fun m hm => absurd hm List.not_mem_nil⟩
 ·exact ⟨_, Z, .inr (.inr ⟨f.client, f.seq, f.try_, hj.elim (fun h => .inl (by rw [h])) fun h => .inr (by rw [h])⟩), fun m hm => by rw [List.mem_singleton.1 hm]⟩
 ·exact xnz
end Rep
namespace Nd
open Go Vg Api Adm Sched Conf Rep Ref16
structure AEq (D A : AdmM) : Prop where
 sch : D.sch = A.sch
 cl : D.clients = A.clients
 marks : D.marks = A.marks
variable {D A : AdmM}
theorem AEq.has (h : AEq D A) (k : Int) : D.has k = A.has k := by unfold AdmM.has; rw [h.cl]
theorem AEq.mark (h : AEq D A) (k : Int) : D.mark k = A.mark k := by unfold AdmM.mark; rw [h.marks]
theorem AEq.may (h : AEq D A) (f : FrameM) : D.may f = A.may f := may_congr h.cl (by rw [h.sch]) f
theorem AEq.barred (h : AEq D A) (k s t : Int) : D.barred k s t = A.barred k s t := by unfold AdmM.barred; rw [h.has, h.mark]
theorem AEq.withSch (h : AEq D A) (S : SchM) : AEq (D.withSch S) (A.withSch S) := ⟨rfl, h.cl, h.marks⟩
theorem AEq.barF (h : AEq D A) (k s t : Int) : AEq (D.barF k s t) (A.barF k s t) := by
 unfold AdmM.barF
 rw [h.mark]
 split
 ·exact ⟨h.sch, h.cl, by show D.marks.set _ _ = A.marks.set _ _; rw [h.marks]⟩
 ·exact h
theorem AEq.barM (h : AEq D A) (k s t : Int) : AEq (D.barM k s t).2 (A.barM k s t).2 := by
 unfold AdmM.barM
 rw [h.has]
 split
 ·exact h.barF k s t
 ·exact h
theorem AEq.setWt (h : AEq D A) (k s : Int) : AEq D (A.setWt k s) := ⟨h.sch, h.cl, h.marks⟩
theorem AEq.expF : ∀ (l : List FrameM) {D A : AdmM}, AEq D A → (∀ f ∈ l, okC A.clients f) → AEq (barAll D l) (A.expF l)
 | [], D, A, h, _ => h
 | f :: l, D, A, h, hl => by
  obtain ⟨h1, h2, h3⟩ := hl f ya
  have e : (D.barM f.client f.seq f.try_).2 = D.barF f.client f.seq f.try_ := by
   unfold AdmM.barM
   rw [if_pos (by rw [h.has, (has_iff _ _).2 h1, h2, h3]; rfl)]
  have h4 : AEq (D.barM f.client f.seq f.try_).2 (A.out f) := by
   rw [e]; exact (h.setWt f.client 0).barF _ _ _
  exact AEq.expF l h4 (fun g hg => by rw [out_clients]; exact hl g yi)
theorem AEq.exp (h : AEq D A) (hC : A.Calls) (now : Int) : AEq (raExp D now) (A.expireM now) := by
 unfold raExp AdmM.expireM
 rw [h.sch]
 exact AEq.expF _ (h.withSch _) (fun f hf => gone_ok hC now f hf)
theorem AEq.next (h : AEq D A) (hC : A.Calls) (now : Int) : AEq (raNext D now) (A.nextM now) := by
 have e := h.exp hC now
 unfold raNext AdmM.nextM
 rw [e.sch]
 split
 ·exact (e.withSch _).setWt _ _
 ·exact e.withSch _
theorem rwaits_of {nc : Int} {m cap : Nat} (s : SInv nc m cap A) {k : Int} (hk : 0 ≤ k ∧ k < nc) : rwaits A.sch k = (A.wt k, !(A.wt k == 0)) := by
 unfold rwaits
 have hall : A.sch.waitM = A.all := by unfold SchM.waitM AdmM.all SchM.qs; rw [List.flatMap_def]
 rw [hall]
 cases hf : A.all.find? (fun f => f.client == k) with
 | none =>
  have hno := List.find?_eq_none.1 hf
  have : A.wt k = 0 := Decidable.byContradiction fun hz => by
   obtain ⟨g, hg, hgk⟩ := s.back k hk.1 hk.2 hz
   exact hno g hg (by rw [hgk]; exact beq_self_eq_true k)
  rw [this]; rfl
 | some g =>
  have hg := List.mem_of_find?_eq_some hf
  have hgk : g.client = k := by have := List.find?_some hf; simpa using this
  have h1 := s.wt g hg
  have h2 := s.seq hg
  rw [hgk] at h1
  have h3 : (A.wt k == 0) = false := by rw [beq_eq_false_iff_ne, h1]; exact h2
  rw [h3, h1]; rfl
theorem AEq.wait (h : AEq D A) (s : SI A) {f : FrameM} (hm : A.may f = true) (now : Int) : (raW D f now).1 = (A.waitM f now).1 ∧ AEq (raW D f now).2 (A.waitM f now).2 := by
 obtain ⟨nc, m, cap, s⟩ := s
 obtain ⟨h1, h2, h3⟩ := may_client hm
 have hr := (has_iff _ _).1 h1
 rw [s.clients] at hr
 have hw := rwaits_of s hr
 have hs : f.seq ≠ 0 := by
  intro e; rw [e] at h2; simp [numM] at h2
 unfold raW AdmM.waitM
 rw [h.barred, h.sch, hw]
 by_cases hb : A.barred f.client f.seq f.try_ = true
 ·rw [if_pos hb, if_pos hb]; exact ⟨rfl, h⟩
 rw [if_neg hb, if_neg hb]
 by_cases hz : A.wt f.client = 0
 ·have e1 : ¬ ((A.wt f.client, !(A.wt f.client == 0)).2 = true ∧ (A.wt f.client, !(A.wt f.client == 0)).1 = f.seq) := fun e => hs (by rw [← e.2]; exact hz)
  have e2 : ¬ (A.wt f.client, !(A.wt f.client == 0)).2 = true := by simp [hz]
  have e3 : ¬ A.wt f.client = f.seq := fun e => hs (by rw [← e]; exact hz)
  have e4 : ¬ A.wt f.client ≠ 0 := fun e => e hz
  rw [if_neg e1, if_neg e2, if_neg e3, if_neg e4]
  split
  ·exact ⟨rfl, h⟩
  split
  ·exact ⟨rfl, h.withSch _⟩
  ·exact ⟨rfl, (h.withSch _).setWt _ _⟩
 ·have e2 : (A.wt f.client, !(A.wt f.client == 0)).2 = true := by simp [hz]
  by_cases hq : A.wt f.client = f.seq
  ·rw [if_pos ⟨e2, hq⟩, if_pos hq]; exact ⟨rfl, h⟩
  ·rw [if_neg (fun e => hq e.2), if_pos e2, if_neg hq, if_pos hz]; exact ⟨rfl, h⟩
theorem AEq.offer (h : AEq D A) (s : SI A) (f : FrameM) (now : Int) : (raOffer D f now).1 = (A.offerM f now).1 ∧ AEq (raOffer D f now).2 (A.offerM f now).2 := by
 unfold raOffer AdmM.offerM
 rw [h.may]
 by_cases hm : A.may f = true
 ·rw [if_pos hm, if_pos hm]
  obtain ⟨h1, h2⟩ := h.wait s hm now
  rw [h1]
  split
  ·exact ⟨rfl, h2.barM _ _ _⟩
  ·exact ⟨h1, h2⟩
 ·rw [if_neg hm, if_neg hm]; exact ⟨rfl, h⟩
theorem SI_deadline {A : AdmM} (s : SI A) {f : FrameM} (hf : f ∈ A.all) : f.deadline ≤ 1099511627776 := by
 obtain ⟨nc, m, cap, s⟩ := s
 have := s.may f hf
 simp only [AdmM.may, Bool.and_eq_true, decide_eq_true_eq] at this
 exact this.1.1.2
theorem cls_all {A : AdmM} {c : ClsM} (hc : c ∈ A.sch.cls) {f : FrameM} (hf : f ∈ c.q) : f ∈ A.all := List.mem_flatten.2 ⟨c.q, List.mem_map.2 ⟨c, hc, rfl⟩, hf⟩
theorem exp_big {A : AdmM} (s : SI A) {t u : Int} (ht : 1099511627776 < t) (hu : 1099511627776 < u) : A.sch.expM t = A.sch.expM u ∧ A.sch.goneM t = A.sch.goneM u := by
 have e : ∀ f ∈ A.all, gone t f = gone u f := fun f hf => by
  have := SI_deadline s hf
  unfold gone
  rw [DT yd, DT yd]
 have e1 : ∀ c ∈ A.sch.cls, c.q.filter (gone t) = c.q.filter (gone u) := fun c hc => List.filter_congr fun f hf => e f (cls_all hc hf)
 have e2 : ∀ c ∈ A.sch.cls, c.q.filter (stay t) = c.q.filter (stay u) := fun c hc => List.filter_congr fun f hf => by unfold stay; rw [e f (cls_all hc hf)]
 constructor
 ·unfold SchM.expM
  congr 1
  exact List.map_congr_left fun c hc => by unfold ClsM.expC; rw [e2 c hc]
 ·unfold SchM.goneM
  rw [List.flatMap_def, List.flatMap_def]
  exact congrArg List.flatten (List.map_congr_left fun c hc => e1 c hc)
theorem AEq.big (h : AEq D A) (s : SI A) (hC : A.Calls) : AEq (raExp D bigT) (A.expireM maxI) ∧ D.sch.goneM bigT = A.sch.goneM maxI := by
 obtain ⟨e1, e2⟩ := exp_big (t := bigT) (u := maxI) s yy yy
 refine ⟨?_, by rw [h.sch, e2]⟩
 have := h.exp hC maxI
 unfold raExp at this ⊢
 rw [h.sch] at this ⊢
 rw [e1, e2]; exact this
theorem SI_exp {A : AdmM} (s : SI A) (now : Int) : SI (A.expireM now) := by obtain ⟨nc, m, cap, s⟩ := s; exact ⟨nc, m, cap, s.expire now⟩
end Nd
namespace Nd
open Go Vg Api Kv Ch Lg Rd Win Adm Sched Conf Rep Ref16 Rk
structure AG (A B : AdmM) : Prop where
 cl : B.clients = A.clients
 qs : B.sch.cls.map ClsM.quantum = A.sch.cls.map ClsM.quantum
 si : SI B
theorem AG.refl {A : AdmM} (s : SI A) : AG A A := ⟨rfl, rfl, s⟩
theorem push_quanta (S : SchM) (f : FrameM) : (S.pushM f).2.cls.map ClsM.quantum = S.cls.map ClsM.quantum := by
 unfold SchM.pushM
 cases hc : S.at_ f.cls with
 | none => rfl
 | some c =>
  dsimp only
  split
  ·rfl
  split
  ·unfold SchM.at_ at hc
   split at hc
   ·exact quanta_set hc rfl
   ·cases hc
  ·rfl
theorem pop_quanta {S : SchM} (wf : S.Wf) : (popV S).2.2.cls.map ClsM.quantum = S.cls.map ClsM.quantum := by
 unfold popV
 cases hp : S.popM with
 | none => rfl
 | some r =>
  obtain ⟨f, S1⟩ := r
  obtain ⟨B, hB⟩ : ∃ B : Int, few S B := by
   have key : ∀ l : List ClsM, ∃ B : Int, ∀ c ∈ l, c.served ≤ B := by
    intro l
    induction l with
    | nil => exact ⟨0, fun c hc => by cases hc⟩
    | cons x l ih =>
     obtain ⟨B, hB⟩ := ih
     refine ⟨max B x.served, fun c hc => ?_⟩
     rcases List.mem_cons.1 hc with rfl | hc
     ·omega
     ·have := hB c hc; omega
   exact key S.cls
  exact (popM_keeps wf Z hB hp).1
theorem AG.bar {A B : AdmM} (h : AG A B) (k s t : Int) : AG A (B.barM k s t).2 := by
 obtain ⟨h1, h2, h3⟩ := barM_same B k s t
 exact ⟨h1.trans h.cl, by rw [h3]; exact h.qs, Rep.SI.bar h.si k s t⟩
theorem AG.offer {A : AdmM} (s : SI A) (f : FrameM) (now : Int) : AG A (A.offerM f now).2 := by
 refine ⟨offer_clients A f now, ?_, Rep.SI.offer s f now⟩
 by_cases h0 : (A.offerM f now).1 = 0
 ·obtain ⟨hm, hb, hz, hd, hp, e⟩ := offer_in h0
  rw [e]; exact push_quanta A.sch f
 ·rw [(offer_not now h0).1]
theorem AG.exp {A : AdmM} (wf : A.Wf) (s : SI A) (now : Int) : AG A (A.expireM now) := by
 obtain ⟨h1, h2, h3⟩ := expire_wf wf now
 refine ⟨h2, ?_, SI_exp s now⟩
 rw [h3]
 show (A.sch.cls.map (ClsM.expC now)).map ClsM.quantum = _
 rw [List.map_map]; rfl
theorem AG.next {A : AdmM} (wf : A.Wf) (s : SI A) (now : Int) : AG A (A.nextM now) := by
 obtain ⟨h1, h2, h3⟩ := expire_wf wf now
 refine ⟨?_, ?_, Rep.SI.next s now⟩
 ·unfold AdmM.nextM; split <;> exact h2
 ·have e : (A.nextM now).sch = (popV (A.expireM now).sch).2.2 := by unfold AdmM.nextM; split <;> rfl
  rw [e, pop_quanta h1.sch]; exact (AG.exp wf s now).qs
structure RInv (C : ConfM) (R : RepM) : Prop where
 fit : R.Fit
 cl : C.clients = R.clients
 acl : R.adm.clients = R.clients
 cap : C.window = R.cap
 wcap : R.win.cap = R.cap
 qs : R.adm.sch.cls.map ClsM.quantum = C.qs
 si : SI R.adm
 lok : LogOk R.log
 ch : R.ch = chZ ∨ chOk R.ch = true
 sn : R.since = (sinceOf R.ch R.id).1
 ahead : R.win.last ≤ R.win.done + R.win.cap
 rd : R.rds.l.Pairwise (fun x y => x.id < y.id) ∧ ∀ x ∈ R.rds.l, x.id ≤ R.rds.last
 rw : R.rds.l ≠ [] → R.whole = true ∧ 0 < R.since
structure REq (R : RepM) (n : NdM) : Prop where
 id : n.id = R.id
 ch : n.ch = R.ch
 since : n.since = R.since
 whole : n.whole = R.whole
 log : n.log = R.log
 done : n.done = R.win.done
 sent : n.sent = R.win.sent
 limit : n.limit = R.win.limit
 have_ : n.have_ = R.have_
 linked : n.linked = R.linked
 adm : AEq n.adm R.adm
 rds : n.rds = R.rds
 st : R.whole = true → n.st = R.start
 bs : R.base = max n.bs (-1)
theorem chOk_mem {c : ChM} (h : chOk c = true) {i : Nat} {m : MemM} (hm : c.ms[i]? = some m) : 0 ≤ m.1 ∧ m.1 < 6 ∧ placeOf c.ms m.1 = i ∧ 1 ≤ m.2 ∧ m.2 ≤ c.epoch := by
 simp only [chOk, Bool.and_eq_true, List.all_eq_true] at h
 have h2 := h.2.1 i (List.mem_range.2 (List.getElem?_eq_some_iff.1 hm).1)
 simp only [memOk, hm, nodeB, Bool.and_eq_true, decide_eq_true_eq] at h2
 exact ⟨h2.1.1, h2.1.2, h2.2.1, h2.2.2.1, h2.2.2.2⟩
theorem chOk_head {c : ChM} (h : chOk c = true) : 1 ≤ c.epoch ∧ c.epoch ≤ 1099511627776 ∧ 1 ≤ c.ms.length ∧ c.ms.length ≤ 6 := by
 simp only [chOk, headOk, Bool.and_eq_true, decide_eq_true_eq] at h
 exact ⟨h.1.1, h.1.2.1, h.1.2.2.1, h.1.2.2.2⟩
theorem chE_ok {c : ChM} : chE c = 0 ↔ chOk c = true := by
 unfold chE
 split
 ·rename_i h; simp [h]
 ·rename_i h; simp [h]
theorem chZ_no : chOk chZ = false := by decide
section
variable {C : ConfM} {R : RepM} {n : NdM}
theorem RInv.in_ (i : RInv C R) : (0 < R.since ↔ 0 ≤ placeOf R.ch.ms R.id) ∧ (0 ≤ placeOf R.ch.ms R.id → chOk R.ch = true) := by
 rcases i.ch with h | h
 ·have hp : placeOf R.ch.ms R.id = -1 := by rw [h]; rfl
  have hs := i.sn
  rw [h, sinceOf, if_neg (fun e => by rw [chZ_no] at e; cases e.1)] at hs
  rw [hp, hs]
  exact ⟨by decide, fun e => absurd e yy⟩
 ·refine ⟨?_, fun _ => h⟩
  rw [i.sn, sinceOf]
  by_cases hp : 0 ≤ placeOf R.ch.ms R.id
  ·rw [if_pos ⟨h, hp⟩]
   rcases place_range R.ch.ms R.id with e | ⟨k, m, e, hk, hm, hn⟩
   ·omega
   ·have h2 := chOk_mem h hm
    have h3 : (placeOf R.ch.ms R.id).toNat = k := by omega
    rw [h3, hm]
    show 0 < m.2 ↔ _
    omega
  ·rw [if_neg (fun e => hp e.2)]
   exact ⟨fun e => absurd e yy, fun e => absurd e hp⟩
theorem REq.place (e : REq R n) (i : RInv C R) : n.place = placeOf R.ch.ms R.id := by
 unfold NdM.place
 rw [e.since, e.ch, e.id]
 by_cases h : 0 < R.since
 ·rw [if_pos h]
 ·rw [if_neg h]
  rcases place_range R.ch.ms R.id with e1 | ⟨k, m, e1, _⟩
  ·rw [e1]
  ·exact absurd (i.in_.1.2 yd) h
theorem REq.inB (e : REq R n) (i : RInv C R) : decide (0 ≤ n.place) = R.inB := by
 rw [e.place i, RepM.inB]
 exact decide_eq_decide.2 i.in_.1.symm
theorem memAt_of {c : ChM} (h : chOk c = true) {k : Nat} {m : MemM} (hm : c.ms[k]? = some m) : memAt c k = m.1 := by
 have hk := (List.getElem?_eq_some_iff.1 hm).1
 rw [memAt, if_pos ⟨h, by omega, by omega⟩]
 simp [hm]
theorem REq.at_ (e : REq R n) (i : RInv C R) (hp : 0 ≤ placeOf R.ch.ms R.id) (k : Int) : n.at_ k = memAt R.ch k := by
 have hok := i.in_.2 hp
 unfold NdM.at_ memAt
 rw [e.place i, e.ch]
 by_cases h : k < 0 ∨ (R.ch.ms.length : Int) ≤ k
 ·rw [if_pos yd, if_neg yd]
 ·rw [if_neg yd, if_pos ⟨hok, by omega, by omega⟩]
theorem REq.ahead (e : REq R n) (i : RInv C R) : n.ahead = R.prevM := by
 unfold NdM.ahead RepM.prevM prevOf
 by_cases hp : 0 ≤ placeOf R.ch.ms R.id
 ·rw [e.at_ i hp, e.place i]
 ·rw [NdM.at_, if_pos (by rw [e.place i]; omega), memAt, if_neg yd]
theorem REq.next (e : REq R n) (i : RInv C R) : n.next = R.nextM := by
 unfold NdM.next RepM.nextM nextOf
 by_cases hp : 0 ≤ placeOf R.ch.ms R.id
 ·rw [e.at_ i hp, e.place i, if_neg yd]
 ·rw [NdM.at_, if_pos (by rw [e.place i]; omega), if_pos yd]
theorem RInv.nth (i : RInv C R) (k : Nat) (hk : k < R.ch.ms.length) : (R.inB && (memAt R.ch k == R.id)) = (placeOf R.ch.ms R.id == (k : Int)) := by
 obtain ⟨m, hm⟩ : ∃ m, R.ch.ms[k]? = some m := ⟨_, GE hk⟩
 rw [Bool.eq_iff_iff, Bool.and_eq_true, beq_iff_eq, beq_iff_eq, RepM.inB, decide_eq_true_eq, i.in_.1]
 constructor
 ·rintro ⟨h1, h2⟩
  have hok := i.in_.2 h1
  rw [memAt_of hok hm] at h2
  rw [← h2]
  exact (chOk_mem hok hm).2.2.1
 ·intro h
  have h1 : 0 ≤ placeOf R.ch.ms R.id := by omega
  have hok := i.in_.2 h1
  refine ⟨h1, ?_⟩
  rw [memAt_of hok hm]
  rcases place_range R.ch.ms R.id with e1 | ⟨j, x, e1, _, hx, hn⟩
  ·omega
  ·obtain rfl : j = k := by omega
   rw [hx] at hm; cases hm; exact hn
theorem REq.head (e : REq R n) (i : RInv C R) : (n.place == 0) = R.headB := by
 rw [e.place i, RepM.headB, headOf]
 by_cases h : 0 < R.ch.ms.length
 ·exact (i.nth 0 h).symm
 ·have : R.ch.ms = [] := List.eq_nil_of_length_eq_zero yd
  have h2 : R.inB = false := by rw [RepM.inB]; exact DF (fun e => by
   have h3 := i.in_.1.1 e
   rw [‹R.ch.ms = []›] at h3
   have : placeOf ([] : List MemM) R.id = -1 := rfl
   omega)
  rw [h2, this]; rfl
theorem REq.tail (e : REq R n) (i : RInv C R) : n.tail = R.tailB := by
 rw [NdM.tail, e.inB i, e.place i, e.ch, RepM.tailB, tailOf]
 by_cases h : 0 < R.ch.ms.length
 ·have h1 := i.nth (R.ch.ms.length - 1) yd
  rw [show (((R.ch.ms.length - 1 : Nat)) : Int) = (R.ch.ms.length : Int) - 1 from by omega] at h1
  rw [h1, ← h1, ← Bool.and_assoc, Bool.and_self]
 ·have h2 : R.inB = false := by rw [RepM.inB]; exact DF (fun e => by
   have h3 := i.in_.1.1 e
   rw [List.eq_nil_of_length_eq_zero (l := R.ch.ms) yd] at h3
   have : placeOf ([] : List MemM) R.id = -1 := rfl
   omega)
  rw [h2]; rfl
theorem REq.drains (e : REq R n) (i : RInv C R) : n.drains = R.drainsB := by
 rw [NdM.drains, e.inB i, e.ch, e.id, RepM.drainsB]
theorem REq.len (e : REq R n) (i : RInv C R) : (n.log.length : Int) = R.win.last := by rw [e.log, i.fit.ok.last]
end
end Nd
end Go.Proofs.YtbbnmgakmcppdaaGreat
