/- ScriptParts: the text of two scripts, one behind the other, is both texts. No condition but what the listed variables hold. -/
import Derived.Test.YtceobomlmdmicaaDoorScF
namespace Go.Proofs.YtceobomlmdmicaaDoor.Scr
open Go Go.Proofs.YtceobomlmdmicaaDoor.Vg Go.Proofs.YtceobomlmdmicaaDoor.T Go.Proofs.YtceobomlmdmicaaDoor.Api Go.Proofs.YtceobomlmdmicaaDoor.LibC
set_option linter.unusedSimpArgs false
set_option linter.unusedVariables false
attribute [local irreducible] VO VC VA

def tickW : List UInt8 := [116, 105, 99, 107, 32, 116, 105, 99, 107]
theorem tick_none : lineR (toB tickW) = none := by decide +kernel
theorem getR_parts : ∀ {l : List DoM} {f : Nat} {acc : List DoM} {r : List UInt8}, (∀ d ∈ l, d.Ok) → (putL l ++ (tickW ++ 10 :: r)).length < f → getR f (putL l ++ (tickW ++ 10 :: r)) acc = ([], ((acc ++ readM l).length : Int) + 1, 10)
  | [], f, acc, r, _, hf => by
    obtain ⟨f, rfl⟩ : ∃ k, f = k + 1 := ⟨f - 1, by omega⟩
    rw [show putL [] ++ (tickW ++ 10 :: r) = tickW ++ 10 :: r from rfl]
    rw [getR, if_neg (by simp), cut_first (by decide)]
    simp only [if_true]
    rw [tick_none]
    simp [readM]
  | d :: l, f, acc, r, hok, hf => by
    have hok2 : ∀ d ∈ l, d.Ok := fun d hd => hok d (by simp [hd])
    have e : putL (d :: l) = lineL d ++ putL l := rfl
    cases hk : isK d.kind with
    | false =>
      have e0 : lineL d = [] := by unfold lineL; rw [hk]; rfl
      rw [e, e0, List.nil_append] at hf ⊢
      rw [getR_parts hok2 hf]
      simp [readM, hk]
    | true =>
      have e1 : (lineL d ++ putL l) ++ (tickW ++ 10 :: r) = (wordK d.kind.toNat ++ restL d) ++ 10 :: (putL l ++ (tickW ++ 10 :: r)) := by unfold lineL; rw [hk]; simp
      obtain ⟨f, rfl⟩ : ∃ k, f = k + 1 := ⟨f - 1, by omega⟩
      rw [e, e1] at hf ⊢
      rw [getR, if_neg (by simp), cut_first (line_noend hk)]
      simp only [if_true]
      rw [lineR_fwd (hok d (by simp)) hk]
      simp only
      rw [getR_parts hok2 (by simp only [List.length_append, List.length_cons] at hf ⊢; omega)]
      simp [readM, hk]
theorem get_parts {l m : List DoM} (hok : ∀ d ∈ l, d.Ok) : getM (toB (putL l) ++ ⟨#[116, 105, 99, 107, 32, 116, 105, 99, 107, 10]⟩ ++ toB (putL m)) = ([], ((readM l).length : Int) + 1, 10) := by
  have e : toB (putL l) ++ ⟨#[116, 105, 99, 107, 32, 116, 105, 99, 107, 10]⟩ ++ toB (putL m) = toB (putL l ++ (tickW ++ 10 :: putL m)) := by
    rw [show (⟨#[116, 105, 99, 107, 32, 116, 105, 99, 107, 10]⟩ : ByteArray) = toB (tickW ++ [10]) from rfl, toB_cat, toB_cat]; simp
  rw [e]
  unfold getM
  rw [toB_list, toB_size, getR_parts hok (by omega)]; rfl
def doEq (d e : DoM) : Bool := decide (d.kind = e.kind) && (decide (d.a = e.a) && (decide (d.b = e.b) && (decide (d.c = e.c) && (opEq d.op e.op && true))))
theorem doEq_self (d : DoM) : doEq d d = true := by simp [doEq, opEq_self]
theorem stoodD : Tryd.prog.stoodInHeld 30 = false := by kernel_rfl
theorem guardD : Tryd.prog.eqGuardType Tryd.prog.depth 30 = false := by kernel_rfl
theorem do_eq (d e : DoM) (w : World) : (Op.equal 30 (.agg (doC d).toArray) (.agg (doC e).toArray)).run Tryd.prog w = .ok (doEq d e) w := by
  have hi : ∀ (cs : List Value) (j : Nat) (n : Int), cs[j]? = some (.int .i64 n) → ∀ w : World, (part 3 cs.toArray j).run Tryd.prog w = .ok (.int .i64 n) w := fun cs j n h w => part1 (TabOk.look tabOk (t := 3) (ti := T.t3) rfl) rfl h w
  have hs : ∀ (cs : List Value) (j : Nat) (s : ByteArray), cs[j]? = some (.string s) → ∀ w : World, (part 9 cs.toArray j).run Tryd.prog w = .ok (.string s) w := fun cs j n h w => part1 (TabOk.look tabOk (t := 9) (ti := T.t9) rfl) rfl h w
  have ho : ∀ (x : DoM) (w : World), (part 27 (doC x).toArray 4).run Tryd.prog w = .ok (.agg x.op.cells.toArray) w := fun x w => partA (TabOk.look tabOk (t := 27) (ti := T.t27) rfl) rfl rfl w
  have hop := EqT.st Tryd.underlying27 stood (EqFs.cons (by decide) (hi d.op.cells _ _ rfl) (hi e.op.cells _ _ rfl) (EqT.int Tryd.underlying3 d.op.kind e.op.kind) (EqFs.cons (by decide) (hs _ _ _ rfl) (hs _ _ _ rfl) (EqT.str Tryd.underlying9 d.op.key e.op.key) (EqFs.cons (by decide) (hs _ _ _ rfl) (hs _ _ _ rfl) (EqT.str Tryd.underlying9 d.op.value e.op.value) (EqFs.cons (by decide) (hi _ _ _ rfl) (hi _ _ _ rfl) (EqT.int Tryd.underlying3 d.op.version e.op.version) EqFs.nil))))
  refine EqT.run (EqT.st Tryd.underlying30 stoodD (EqFs.cons (by decide) (hi _ _ _ rfl) (hi _ _ _ rfl) (EqT.int Tryd.underlying3 d.kind e.kind) (EqFs.cons (by decide) (hi _ _ _ rfl) (hi _ _ _ rfl) (EqT.int Tryd.underlying3 d.a e.a) (EqFs.cons (by decide) (hi _ _ _ rfl) (hi _ _ _ rfl) (EqT.int Tryd.underlying3 d.b e.b) (EqFs.cons (by decide) (hi _ _ _ rfl) (hi _ _ _ rfl) (EqT.int Tryd.underlying3 d.c e.c)
    (EqFs.cons (by decide) (ho d) (ho e) hop EqFs.nil)))))) (by decide) w

set_option maxRecDepth 100000 in
set_option maxHeartbeats 2000000 in
theorem parts_spec (Fr : Nat → Prop) (w : World) {a b : Option Addr} {ca cb : Nat} {l m : List DoM} (h : RwIn doC 8 Fr w a l) (g : RwIn doC 8 Fr w b m) (hl : l.length ≤ 9223372036854775807) (hm : m.length ≤ 9223372036854775807) (hI : ∀ d ∈ l, d.I) (gI : ∀ d ∈ m, d.I) (hG : GlobF Fr w) (hK : KindsF Fr w) :
    Tri Tryd.prog 6 [.slice a l.length ca, .slice b m.length cb] Fr w [] (fun v L => v = .bool true ∧ L = []) := by
  refine Tri.of 149 Tryd.func6 rfl (by kernel_rfl) tabOk rfl rfl ?_
  (repeat (first | refine VC.seq ?_ | refine VC.region ?_ | refine VC.block ?_ | refine VC.label ?_ | refine VC.scope ?_ | refine VO.go (VO.nil ?_) | refine VO.go (VO.ld 0 rfl rfl rfl rfl ?_)))
  refine VO.go (VO.callV' (fun Fr w hF hw _ => sgreat_spec Fr w (h.of hF hw) hl 20) rfl ?_)
  (repeat (first | refine VC.seq ?_ | refine VC.region ?_ | refine VC.block ?_ | refine VC.label ?_ | refine VC.scope ?_ | refine VO.go (VO.nil ?_) | refine VO.go (VO.ld 0 rfl rfl rfl rfl ?_)))
  cases hga : greatD l 20 with
  | true =>
    refine VO.go (VO.yes 22 true rfl rfl ?_)
    (repeat (first | refine VC.seq ?_ | refine VC.region ?_ | refine VC.block ?_ | refine VC.label ?_ | refine VC.scope ?_ | refine VO.go (VO.nil ?_) | refine VO.go (VO.ld 0 rfl rfl rfl rfl ?_) | refine VO.go (VO.offU rfl rfl rfl ?_)))
    refine VC.condT rfl ?_
    (repeat (first | refine VC.seq ?_ | refine VC.region ?_ | refine VC.block ?_ | refine VC.label ?_ | refine VC.scope ?_ | refine VO.go (VO.nil ?_) | refine VO.go (VO.ld 0 rfl rfl rfl rfl ?_)))
    refine VO.go (VO.callV' (fun Fr w hF hw _ => written_spec Fr w (GlobF.st (X := ⟨Tryd.prog, tab, tabOk, 149, _, _⟩) hG hF hw) (KindsF.st (X := ⟨Tryd.prog, tab, tabOk, 149, _, _⟩) hK hF hw)) rfl ?_)
    (repeat (first | refine VC.seq ?_ | refine VC.region ?_ | refine VC.block ?_ | refine VC.label ?_ | refine VC.scope ?_ | refine VO.go (VO.nil ?_) | refine VO.go (VO.ld 0 rfl rfl rfl rfl ?_)))
    exact VC.ret (Ret.tmp 4 rfl rfl Imp.nil.ent ⟨rfl, rfl⟩)
  | false =>
  refine VO.go (VO.yes 22 false rfl rfl ?_)
  (repeat (first | refine VC.seq ?_ | refine VC.region ?_ | refine VC.block ?_ | refine VC.label ?_ | refine VC.scope ?_ | refine VO.go (VO.nil ?_) | refine VO.go (VO.ld 0 rfl rfl rfl rfl ?_) | refine VO.go (VO.offU rfl rfl rfl ?_)))
  refine VO.go (VO.callV' (fun Fr w hF hw _ => sgreat_spec Fr w (g.of hF hw) hm 20) rfl ?_)
  (repeat (first | refine VC.seq ?_ | refine VC.region ?_ | refine VC.block ?_ | refine VC.label ?_ | refine VC.scope ?_ | refine VO.go (VO.nil ?_) | refine VO.go (VO.ld 0 rfl rfl rfl rfl ?_) | refine VO.go (VO.offU rfl rfl rfl ?_)))
  refine VC.cond rfl (fun _ => ?_) (fun hgb => VC.skip ?_)
  · (repeat (first | refine VC.seq ?_ | refine VC.region ?_ | refine VC.block ?_ | refine VC.label ?_ | refine VC.scope ?_ | refine VO.go (VO.nil ?_) | refine VO.go (VO.ld 0 rfl rfl rfl rfl ?_)))
    refine VO.go (VO.callV' (fun Fr w hF hw _ => written_spec Fr w (GlobF.st (X := ⟨Tryd.prog, tab, tabOk, 149, _, _⟩) hG hF hw) (KindsF.st (X := ⟨Tryd.prog, tab, tabOk, 149, _, _⟩) hK hF hw)) rfl ?_)
    (repeat (first | refine VC.seq ?_ | refine VC.region ?_ | refine VC.block ?_ | refine VC.label ?_ | refine VC.scope ?_ | refine VO.go (VO.nil ?_) | refine VO.go (VO.ld 0 rfl rfl rfl rfl ?_)))
    exact VC.ret (Ret.tmp 4 rfl rfl Imp.nil.ent ⟨rfl, rfl⟩)
  obtain ⟨hl20, hsz⟩ := greatD_no hga
  obtain ⟨hm20, gsz⟩ := greatD_no hgb
  have hok : ∀ d ∈ l, d.Ok := fun d hd => ⟨(hI d hd).kind, (hI d hd).a, (hI d hd).b, (hI d hd).c, (hI d hd).opk, (hI d hd).opv, by have := hsz d hd; omega, by have := hsz d hd; omega⟩
  have gok : ∀ d ∈ m, d.Ok := fun d hd => ⟨(gI d hd).kind, (gI d hd).a, (gI d hd).b, (gI d hd).c, (gI d hd).opk, (gI d hd).opv, by have := gsz d hd; omega, by have := gsz d hd; omega⟩
  have aok : ∀ d ∈ l ++ m, d.Ok := fun d hd => (List.mem_append.1 hd).elim (hok d) (gok d)
  have hplen : (putL l).length ≤ 16500 * l.length := flatMap_len fun d hd => lineL_len (hok d hd)
  have gplen : (putL m).length ≤ 16500 * m.length := flatMap_len fun d hd => lineL_len (gok d hd)
  have hrl : (readM l).length ≤ l.length := by simp only [readM, List.length_map]; exact List.length_filter_le _ _
  have grl : (readM m).length ≤ m.length := by simp only [readM, List.length_map]; exact List.length_filter_le _ _
  (repeat (first | refine VC.seq ?_ | refine VC.region ?_ | refine VC.block ?_ | refine VC.label ?_ | refine VC.scope ?_ | refine VO.go (VO.nil ?_) | refine VO.go (VO.ld 0 rfl rfl rfl rfl ?_)))
  refine VO.go (VO.callV' (fun Fr w hF hw _ => put_spec Fr w (h.of hF hw) (by omega) hok (TabF.st rfl hG.tab hF hw) (KindsF.st (X := ⟨Tryd.prog, tab, tabOk, 149, _, _⟩) hK hF hw)) rfl ?_)
  (repeat (first | refine VC.seq ?_ | refine VC.region ?_ | refine VC.block ?_ | refine VC.label ?_ | refine VC.scope ?_ | refine VO.go (VO.nil ?_) | refine VO.go (VO.ld 0 rfl rfl rfl rfl ?_)))
  refine VO.go (VO.callV' (fun Fr w hF hw _ => put_spec Fr w (g.of hF hw) (by omega) gok (TabF.st rfl hG.tab hF hw) (KindsF.st (X := ⟨Tryd.prog, tab, tabOk, 149, _, _⟩) hK hF hw)) rfl ?_)
  (repeat (first | refine VC.seq ?_ | refine VC.region ?_ | refine VC.block ?_ | refine VC.label ?_ | refine VC.scope ?_ | refine VO.go (VO.nil ?_) | refine VO.go (VO.ld 0 rfl rfl rfl rfl ?_)))
  refine VO.go (VO.call (Lc := []) (fun Fr w hF hw _ => get_at Fr w (get_put hok) (by rw [toB_size]; omega) (GlobF.st (X := ⟨Tryd.prog, tab, tabOk, 149, _, _⟩) hG hF hw) (KindsF.st (X := ⟨Tryd.prog, tab, tabOk, 149, _, _⟩) hK hF hw)) rfl rfl ?_)
  rintro _ _ ⟨xa, xc, rfl, rfl⟩
  (repeat (first | refine VC.seq ?_ | refine VC.region ?_ | refine VC.block ?_ | refine VC.label ?_ | refine VC.scope ?_ | refine VO.go (VO.nil ?_) | refine VO.go (VO.ld 0 rfl rfl rfl rfl ?_)))
  refine VO.go (VO.call (Lc := []) (fun Fr w hF hw _ => get_at Fr w (get_put gok) (by rw [toB_size]; omega) (GlobF.st (X := ⟨Tryd.prog, tab, tabOk, 149, _, _⟩) hG hF hw) (KindsF.st (X := ⟨Tryd.prog, tab, tabOk, 149, _, _⟩) hK hF hw)) rfl rfl ?_)
  rintro _ _ ⟨ya, yc, rfl, rfl⟩
  (repeat (first | refine VC.seq ?_ | refine VC.region ?_ | refine VC.block ?_ | refine VC.label ?_ | refine VC.scope ?_ | refine VO.go (VO.nil ?_) | refine VO.go (VO.ld 0 rfl rfl rfl rfl ?_)))
  refine VO.go (VO.light (light_cat rfl rfl (by rw [toB_size, toB_size]; omega)) ?_)
  (repeat (first | refine VC.seq ?_ | refine VC.region ?_ | refine VC.block ?_ | refine VC.label ?_ | refine VC.scope ?_ | refine VO.go (VO.nil ?_) | refine VO.go (VO.ld 0 rfl rfl rfl rfl ?_)))
  rw [toB_cat, ← putL_app]
  have aplen : (putL (l ++ m)).length ≤ 16500 * (l ++ m).length := flatMap_len fun d hd => lineL_len (aok d hd)
  rw [List.length_append] at aplen
  refine VO.go (VO.call (Lc := []) (fun Fr w hF hw _ => get_at Fr w (get_put aok) (by rw [toB_size]; omega) (GlobF.st (X := ⟨Tryd.prog, tab, tabOk, 149, _, _⟩) hG hF hw) (KindsF.st (X := ⟨Tryd.prog, tab, tabOk, 149, _, _⟩) hK hF hw)) rfl rfl ?_)
  rintro _ _ ⟨za, zc, rfl, rfl⟩
  (repeat (first | refine VC.seq ?_ | refine VC.region ?_ | refine VC.block ?_ | refine VC.label ?_ | refine VC.scope ?_ | refine VO.go (VO.nil ?_) | refine VO.go (VO.ld 0 rfl rfl rfl rfl ?_)))
  refine VO.go (VO.yes 53 false rfl rfl ?_)
  (repeat (first | refine VC.seq ?_ | refine VC.region ?_ | refine VC.block ?_ | refine VC.label ?_ | refine VC.scope ?_ | refine VO.go (VO.nil ?_) | refine VO.go (VO.ld 0 rfl rfl rfl rfl ?_) | refine VO.go (VO.offU rfl rfl rfl ?_)))
  refine VO.go (VO.yes 57 false rfl rfl ?_)
  (repeat (first | refine VC.seq ?_ | refine VC.region ?_ | refine VC.block ?_ | refine VC.label ?_ | refine VC.scope ?_ | refine VO.go (VO.nil ?_) | refine VO.go (VO.ld 0 rfl rfl rfl rfl ?_) | refine VO.go (VO.offU rfl rfl rfl ?_)))
  refine VO.go (VO.yes 61 false rfl rfl ?_)
  (repeat (first | refine VC.seq ?_ | refine VC.region ?_ | refine VC.block ?_ | refine VC.label ?_ | refine VC.scope ?_ | refine VO.go (VO.nil ?_) | refine VO.go (VO.ld 0 rfl rfl rfl rfl ?_) | refine VO.go (VO.offU rfl rfl rfl ?_)))
  refine VO.ent (L' := slH 30 8 none 0 0 [] :: _) (Imp.slNil Imp.refl).ent ?_
  refine VO.go (VO.append (m := l.length) (news := flat doC l) 0 rfl rfl rfl rfl rfl rfl rfl (h.row doC_len) (flat_all doC_one l) (by show (0 + l.length) * 80 ≤ _; omega) (by omega) fun a1 c1 hc1 => ?_)
  rw [Nat.zero_add, List.nil_append]
  (repeat (first | refine VC.seq ?_ | refine VC.region ?_ | refine VC.block ?_ | refine VC.label ?_ | refine VC.scope ?_ | refine VO.go (VO.nil ?_) | refine VO.go (VO.ld 0 rfl rfl rfl rfl ?_) | refine VO.go (VO.offU rfl rfl rfl ?_)))
  refine VO.go (VO.append (m := m.length) (news := flat doC m) 0 rfl rfl rfl rfl rfl rfl rfl (g.row doC_len) (flat_all doC_one m) (by show (l.length + m.length) * 80 ≤ _; omega) (by omega) fun a2 c2 hc2 => ?_)
  rw [← List.length_append, ← flat_append]
  (repeat (first | refine VC.seq ?_ | refine VC.region ?_ | refine VC.block ?_ | refine VC.label ?_ | refine VC.scope ?_ | refine VO.go (VO.nil ?_) | refine VO.go (VO.ld 0 rfl rfl rfl rfl ?_) | refine VO.go (VO.offU rfl rfl rfl ?_)))
  refine VO.go (VO.callV' (fun Fr w hF hw hS => put_spec Fr w (RwIn.sl (cap := c2) doC_len (hS.at_ 0 rfl)) (by rw [List.length_append]; omega) aok (TabF.st rfl hG.tab hF hw) (KindsF.st (X := ⟨Tryd.prog, tab, tabOk, 149, _, _⟩) hK hF hw)) rfl ?_)
  (repeat (first | refine VC.seq ?_ | refine VC.region ?_ | refine VC.block ?_ | refine VC.label ?_ | refine VC.scope ?_ | refine VO.go (VO.nil ?_) | refine VO.go (VO.ld 0 rfl rfl rfl rfl ?_) | refine VO.go (VO.offU rfl rfl rfl ?_)))
  refine VO.go (VO.light (light_cat rfl rfl (by rw [toB_size, toB_size]; omega)) ?_)
  rw [toB_cat, ← putL_app]
  (repeat (first | refine VC.seq ?_ | refine VC.region ?_ | refine VC.block ?_ | refine VC.label ?_ | refine VC.scope ?_ | refine VO.go (VO.nil ?_) | refine VO.go (VO.ld 0 rfl rfl rfl rfl ?_) | refine VO.go (VO.offU rfl rfl rfl ?_)))
  refine VO.go (VO.yes 72 false rfl (by simp) ?_)
  (repeat (first | refine VC.seq ?_ | refine VC.region ?_ | refine VC.block ?_ | refine VC.label ?_ | refine VC.scope ?_ | refine VO.go (VO.nil ?_) | refine VO.go (VO.ld 0 rfl rfl rfl rfl ?_) | refine VO.go (VO.offU rfl rfl rfl ?_)))
  refine VO.go (VO.add rfl rfl (by omega) (by omega) ?_)
  (repeat (first | refine VC.seq ?_ | refine VC.region ?_ | refine VC.block ?_ | refine VC.label ?_ | refine VC.scope ?_ | refine VO.go (VO.nil ?_) | refine VO.go (VO.ld 0 rfl rfl rfl rfl ?_) | refine VO.go (VO.offU rfl rfl rfl ?_)))
  have hzx : (readM (l ++ m)).length = (readM l).length + (readM m).length := by rw [readM_app, List.length_append]
  refine VC.cond (t := false) (by simp [Vg.ev, Vg.look, hzx]) (fun hh => by cases hh) (fun _ => VC.skip ?_)
  refine VC.opn 1 rfl (HOpn.rl _ za zc (readM (l ++ m)) doC_len) ?_
  rintro rz ⟨zok, hvz, hxz⟩
  refine VC.opn 2 rfl (HOpn.rl _ ya yc (readM m) doC_len) ?_
  rintro ry ⟨yok, hvy, hxy⟩
  refine VC.opn 3 rfl (HOpn.rl _ xa xc (readM l) doC_len) ?_
  rintro rx ⟨xok, hvx, hxx⟩
  (repeat (first | refine VC.seq ?_ | refine VC.region ?_ | refine VC.block ?_ | refine VC.label ?_ | refine VC.scope ?_ | refine VO.go (VO.nil ?_) | refine VO.go (VO.ld 0 rfl rfl rfl rfl ?_)))
  refine VC.loop (σ := Nat) (fun j => [(5, .string (toB (putL l))), (6, .string (toB (putL m))), (7, .slice xa (readM l).length xc), (10, .slice ya (readM m).length yc), (13, .slice za (readM (l ++ m)).length zc), (16, .int .i64 j)]) (fun _ => [rx.h 30, ry.h 30, rz.h 30]) (fun j => j ≤ (readM (l ++ m)).length) (fun j => (readM (l ++ m)).length - j) 0
    (Nat.zero_le _) (Sub.cons rfl (Sub.cons rfl (Sub.cons rfl (Sub.cons rfl (Sub.cons rfl (Sub.cons rfl (Sub.nil _))))))) (Imp.pick 0 rfl (Imp.pick 0 rfl (Imp.pick 0 rfl Imp.nil))).ent ?_
  intro j hj
  (repeat (first | refine VC.seq ?_ | refine VC.region ?_ | refine VC.block ?_ | refine VC.label ?_ | refine VC.scope ?_ | refine VO.go (VO.nil ?_) | refine VO.go (VO.ld 0 rfl rfl rfl rfl ?_)))
  refine VC.condP rfl (fun h2 => VC.skip ?_) (fun h2 => VC.exit ?_)
  · have hj2 : j < (readM (l ++ m)).length := by omega
    obtain ⟨d, hd⟩ : ∃ d, (readM (l ++ m))[j]? = some d := ⟨_, List.getElem?_eq_getElem hj2⟩
    obtain ⟨zb, zo, z1, z2, hrz⟩ := zok.ld (t := 30) (hxz ▸ hd) rfl
    obtain rfl : za = some ⟨zb, zo, none⟩ := by rw [RL.v, z2, hxz] at hvz; injection hvz with e1; exact e1.symm
    refine VC.seq (VC.block (VC.seq (VC.draw (ts 0 35 .nil) (by kernel_rfl) (by decide +kernel) ?_)))
    by_cases hx : j < (readM l).length
    · have hdx : (readM l)[j]? = some d := by rw [readM_app, List.getElem?_append_left hx] at hd; exact hd
      obtain ⟨xb, xo, x1, x2, hrx⟩ := xok.ld (t := 30) (hxx ▸ hdx) rfl
      obtain rfl : xa = some ⟨xb, xo, none⟩ := by rw [RL.v, x2, hxx] at hvx; injection hvx with e1; exact e1.symm
      (repeat (first | refine VA.go (VA.nil ?_) | refine VA.go (VA.ld 0 rfl rfl rfl rfl rfl ?_) | refine VA.go (VA.offU rfl rfl rfl rfl ?_)))
      refine VA.go (VA.yes 92 true rfl (decide_eq_true (by omega)) ?_)
      (repeat (first | refine VA.go (VA.nil ?_) | refine VA.go (VA.ld 0 rfl rfl rfl rfl rfl ?_) | refine VA.go (VA.offU rfl rfl rfl rfl ?_)))
      refine VA.go (VA.light rfl (light_idx j rfl rfl rfl rfl rfl rfl hj2) ?_)
      refine VA.go (VA.load rfl rfl rfl ((hrz 2 rfl).1 _ rfl rfl) ?_)
      (repeat (first | refine VA.go (VA.nil ?_) | refine VA.go (VA.ld 0 rfl rfl rfl rfl rfl ?_) | refine VA.go (VA.offU rfl rfl rfl rfl ?_)))
      refine VA.go (VA.light rfl (light_idx j rfl rfl rfl rfl rfl rfl hx) ?_)
      refine VA.go (VA.load rfl rfl rfl ((hrx 0 rfl).1 _ rfl rfl) ?_)
      (repeat (first | refine VA.go (VA.nil ?_) | refine VA.go (VA.ld 0 rfl rfl rfl rfl rfl ?_) | refine VA.go (VA.offU rfl rfl rfl rfl ?_)))
      refine VA.go (VA.light rfl (light_neS guardD rfl rfl (do_eq d d)) ?_)
      rw [doEq_self]
      (repeat (first | refine VA.go (VA.nil ?_) | refine VA.go (VA.ld 0 rfl rfl rfl rfl rfl ?_) | refine VA.go (VA.offU rfl rfl rfl rfl ?_)))
      refine VA.go (VA.yes 103 false rfl rfl ?_)
      (repeat (first | refine VA.go (VA.nil ?_) | refine VA.go (VA.ld 0 rfl rfl rfl rfl rfl ?_) | refine VA.go (VA.offU rfl rfl rfl rfl ?_)))
      refine VA.go (VA.yes 108 false rfl (decide_eq_false (by omega)) ?_)
      (repeat (first | refine VA.go (VA.nil ?_) | refine VA.go (VA.ld 0 rfl rfl rfl rfl rfl ?_) | refine VA.go (VA.offU rfl rfl rfl rfl ?_)))
      refine VC.condF rfl (VC.skip ?_)
      (repeat (first | refine VC.seq ?_ | refine VC.region ?_ | refine VC.block ?_ | refine VC.label ?_ | refine VC.scope ?_ | refine VO.go (VO.nil ?_) | refine VO.go (VO.ld 0 rfl rfl rfl rfl ?_)))
      refine VO.go (VO.add rfl rfl (by omega) (by omega) ?_)
      (repeat (first | refine VC.seq ?_ | refine VC.region ?_ | refine VC.block ?_ | refine VC.label ?_ | refine VC.scope ?_ | refine VO.go (VO.nil ?_) | refine VO.go (VO.ld 0 rfl rfl rfl rfl ?_)))
      exact ⟨j + 1, hj2, by dsimp only; omega, Sub.cons rfl (Sub.cons rfl (Sub.cons rfl (Sub.cons rfl (Sub.cons rfl (Sub.cons rfl (Sub.nil _)))))), Ent.refl⟩
    · have hx2 : j - (readM l).length < (readM m).length := by omega
      have hdy : (readM m)[j - (readM l).length]? = some d := by rw [readM_app, List.getElem?_append_right (by omega)] at hd; exact hd
      obtain ⟨yb, yo, y1, y2, hry⟩ := yok.ld (t := 30) (hxy ▸ hdy) rfl
      obtain rfl : ya = some ⟨yb, yo, none⟩ := by rw [RL.v, y2, hxy] at hvy; injection hvy with e1; exact e1.symm
      (repeat (first | refine VA.go (VA.nil ?_) | refine VA.go (VA.ld 0 rfl rfl rfl rfl rfl ?_) | refine VA.go (VA.offU rfl rfl rfl rfl ?_)))
      refine VA.go (VA.yes 92 false rfl (decide_eq_false (by omega)) ?_)
      (repeat (first | refine VA.go (VA.nil ?_) | refine VA.go (VA.ld 0 rfl rfl rfl rfl rfl ?_) | refine VA.go (VA.offU rfl rfl rfl rfl ?_)))
      refine VA.go (VA.yes 103 false rfl rfl ?_)
      (repeat (first | refine VA.go (VA.nil ?_) | refine VA.go (VA.ld 0 rfl rfl rfl rfl rfl ?_) | refine VA.go (VA.offU rfl rfl rfl rfl ?_)))
      refine VA.go (VA.yes 108 true rfl (decide_eq_true (by omega)) ?_)
      (repeat (first | refine VA.go (VA.nil ?_) | refine VA.go (VA.ld 0 rfl rfl rfl rfl rfl ?_) | refine VA.go (VA.offU rfl rfl rfl rfl ?_)))
      refine VA.go (VA.light rfl (light_idx j rfl rfl rfl rfl rfl rfl hj2) ?_)
      refine VA.go (VA.load rfl rfl rfl ((hrz 2 rfl).1 _ rfl rfl) ?_)
      (repeat (first | refine VA.go (VA.nil ?_) | refine VA.go (VA.ld 0 rfl rfl rfl rfl rfl ?_) | refine VA.go (VA.offU rfl rfl rfl rfl ?_)))
      refine VA.go (VA.sub' rfl rfl rfl (by omega) (by omega) ?_)
      (repeat (first | refine VA.go (VA.nil ?_) | refine VA.go (VA.ld 0 rfl rfl rfl rfl rfl ?_) | refine VA.go (VA.offU rfl rfl rfl rfl ?_)))
      refine VA.go (VA.light rfl (light_idx (j - (readM l).length) rfl rfl rfl rfl rfl (by omega) hx2) ?_)
      refine VA.go (VA.load rfl rfl rfl ((hry 1 rfl).1 _ rfl rfl) ?_)
      (repeat (first | refine VA.go (VA.nil ?_) | refine VA.go (VA.ld 0 rfl rfl rfl rfl rfl ?_) | refine VA.go (VA.offU rfl rfl rfl rfl ?_)))
      refine VA.go (VA.light rfl (light_neS guardD rfl rfl (do_eq d d)) ?_)
      rw [doEq_self]
      (repeat (first | refine VA.go (VA.nil ?_) | refine VA.go (VA.ld 0 rfl rfl rfl rfl rfl ?_) | refine VA.go (VA.offU rfl rfl rfl rfl ?_)))
      refine VC.condF rfl (VC.skip ?_)
      (repeat (first | refine VC.seq ?_ | refine VC.region ?_ | refine VC.block ?_ | refine VC.label ?_ | refine VC.scope ?_ | refine VO.go (VO.nil ?_) | refine VO.go (VO.ld 0 rfl rfl rfl rfl ?_)))
      refine VO.go (VO.add rfl rfl (by omega) (by omega) ?_)
      (repeat (first | refine VC.seq ?_ | refine VC.region ?_ | refine VC.block ?_ | refine VC.label ?_ | refine VC.scope ?_ | refine VO.go (VO.nil ?_) | refine VO.go (VO.ld 0 rfl rfl rfl rfl ?_)))
      exact ⟨j + 1, hj2, by dsimp only; omega, Sub.cons rfl (Sub.cons rfl (Sub.cons rfl (Sub.cons rfl (Sub.cons rfl (Sub.cons rfl (Sub.nil _)))))), Ent.refl⟩
  · (repeat (first | refine VC.seq ?_ | refine VC.region ?_ | refine VC.block ?_ | refine VC.label ?_ | refine VC.scope ?_ | refine VO.go (VO.nil ?_) | refine VO.go (VO.ld 0 rfl rfl rfl rfl ?_)))
    refine VO.go (VO.light (light_cat rfl rfl (by rw [toB_size]; show _ + 10 ≤ _; omega)) ?_)
    (repeat (first | refine VC.seq ?_ | refine VC.region ?_ | refine VC.block ?_ | refine VC.label ?_ | refine VC.scope ?_ | refine VO.go (VO.nil ?_) | refine VO.go (VO.ld 0 rfl rfl rfl rfl ?_)))
    refine VO.go (VO.light (light_cat rfl rfl (by rw [ByteArray.size_append, toB_size, toB_size]; show _ + 10 + _ ≤ _; omega)) ?_)
    (repeat (first | refine VC.seq ?_ | refine VC.region ?_ | refine VC.block ?_ | refine VC.label ?_ | refine VC.scope ?_ | refine VO.go (VO.nil ?_) | refine VO.go (VO.ld 0 rfl rfl rfl rfl ?_)))
    refine VO.go (VO.call (Lc := []) (fun Fr w hF hw _ => get_at Fr w (get_parts hok) (by rw [ByteArray.size_append, ByteArray.size_append, toB_size, toB_size]; show _ + 10 + _ ≤ _; omega) (GlobF.st (X := ⟨Tryd.prog, tab, tabOk, 149, _, _⟩) hG hF hw) (KindsF.st (X := ⟨Tryd.prog, tab, tabOk, 149, _, _⟩) hK hF hw)) rfl rfl ?_)
    rintro _ _ ⟨na, nc, rfl, rfl⟩
    (repeat (first | refine VC.seq ?_ | refine VC.region ?_ | refine VC.block ?_ | refine VC.label ?_ | refine VC.scope ?_ | refine VO.go (VO.nil ?_) | refine VO.go (VO.ld 0 rfl rfl rfl rfl ?_)))
    refine VO.go (VO.yes 135 true rfl rfl ?_)
    (repeat (first | refine VC.seq ?_ | refine VC.region ?_ | refine VC.block ?_ | refine VC.label ?_ | refine VC.scope ?_ | refine VO.go (VO.nil ?_) | refine VO.go (VO.ld 0 rfl rfl rfl rfl ?_) | refine VO.go (VO.offU rfl rfl rfl ?_)))
    refine VO.go (VO.add rfl rfl (by omega) (by omega) ?_)
    (repeat (first | refine VC.seq ?_ | refine VC.region ?_ | refine VC.block ?_ | refine VC.label ?_ | refine VC.scope ?_ | refine VO.go (VO.nil ?_) | refine VO.go (VO.ld 0 rfl rfl rfl rfl ?_) | refine VO.go (VO.offU rfl rfl rfl ?_)))
    refine VO.go (VO.yes 142 true rfl (by simp) ?_)
    (repeat (first | refine VC.seq ?_ | refine VC.region ?_ | refine VC.block ?_ | refine VC.label ?_ | refine VC.scope ?_ | refine VO.go (VO.nil ?_) | refine VO.go (VO.ld 0 rfl rfl rfl rfl ?_) | refine VO.go (VO.offU rfl rfl rfl ?_)))
    refine VO.go (VO.yes 146 true rfl (by simp) ?_)
    refine VO.go (VO.callV' (fun Fr w hF hw _ => written_spec Fr w (GlobF.st (X := ⟨Tryd.prog, tab, tabOk, 149, _, _⟩) hG hF hw) (KindsF.st (X := ⟨Tryd.prog, tab, tabOk, 149, _, _⟩) hK hF hw)) rfl ?_)
    (repeat (first | refine VC.seq ?_ | refine VC.region ?_ | refine VC.block ?_ | refine VC.label ?_ | refine VC.scope ?_ | refine VO.go (VO.nil ?_) | refine VO.go (VO.ld 0 rfl rfl rfl rfl ?_) | refine VO.go (VO.offU rfl rfl rfl ?_)))
    exact VC.ret (Ret.tmp 4 rfl rfl Imp.nil.ent ⟨rfl, rfl⟩)
end Go.Proofs.YtceobomlmdmicaaDoor.Scr
