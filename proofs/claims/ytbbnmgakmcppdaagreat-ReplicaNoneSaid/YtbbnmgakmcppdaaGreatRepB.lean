/- Nodes: the epoch of a chain is entered. No condition. -/
import Derived.Test.YtbbnmgakmcppdaaGreatRepA
import Derived.Test.YtbbnmgakmcppdaaGreatALaw
namespace Go.Proofs.YtbbnmgakmcppdaaGreat.Rep
open Go Go.Proofs.YtbbnmgakmcppdaaGreat.Vg Go.Proofs.YtbbnmgakmcppdaaGreat.T Go.Proofs.YtbbnmgakmcppdaaGreat.Api Go.Proofs.YtbbnmgakmcppdaaGreat.Kv Go.Proofs.YtbbnmgakmcppdaaGreat.Ch Go.Proofs.YtbbnmgakmcppdaaGreat.Lg Go.Proofs.YtbbnmgakmcppdaaGreat.Rd Go.Proofs.YtbbnmgakmcppdaaGreat.Win Go.Proofs.YtbbnmgakmcppdaaGreat.Adm Go.Proofs.YtbbnmgakmcppdaaGreat.Sched
set_option linter.unusedSimpArgs false
set_option linter.unusedVariables false
attribute [local irreducible] VO VC VA

theorem copied_spec (Fr : Nat → Prop) (w : World) {c : ChM} {a : Option Addr} {cap : Nat} (h : RwIn memC 2 Fr w a c.ms) (hl : c.ms.length ≤ 1000000) : Tri Tryz.prog 121 [.agg (c.cells a cap).toArray] Fr w []
    (fun v L => ∃ a' c', v = .agg (c.cells a' c').toArray ∧ L = [slH memT 2 a' c.ms.length c' (flat memC c.ms)]) := by
  refine Tri.of 8 Tryz.func121 rfl (by kernel_rfl) tabOk rfl rfl ?_
  refine VC.seq (VC.region (VO.go (VO.boxA (vs := c.cells a cap) rfl (fun b => VO.go (VO.alloc rfl fun d => VO.go (VO.nil ?_))))))
  (repeat (first|refine zS ?_|refine zR ?_|refine zB ?_|refine zL ?_|refine zC ?_|refine zG (zN ?_)|refine zG (zD 0 rfl rfl rfl rfl ?_)|refine zG (zD 1 rfl rfl rfl rfl ?_)))
  refine VO.ent (L' := [slH memT 2 none 0 0 [], pt d [.int .i64 0, .slice none 0 0, .int .i64 0] chT, pt b (c.cells a cap) chT]) (Imp.slNil (Imp.pick 0 rfl (Imp.pick 0 rfl Imp.nil))).ent ?_
  refine VO.go (VO.append (m := c.ms.length) (news := flat memC c.ms) 0 rfl rfl rfl rfl rfl rfl rfl (RwIn.row memC_len h) (flat_all memC_one _) (by show (0 + c.ms.length) * 16 ≤ _; omega) (by omega) fun a' c' _ => ?_)
  rw [Nat.zero_add, List.nil_append]
  (repeat (first|refine zS ?_|refine zR ?_|refine zB ?_|refine zL ?_|refine zC ?_|refine zG (zN ?_)|refine zG (zD 0 rfl rfl rfl rfl ?_)))
  refine VO.go (VO.st 2 (cs' := c.cells a' c') rfl rfl rfl rfl (by show 1 < 3; omega) rfl rfl (VO.go (VO.nil ?_)))
  refine VC.seq (VC.region (VO.go (VO.ldA 2 (c.cells a' c') rfl rfl rfl rfl (VO.go (VO.stA (vs := c.cells a' c') (cs' := c.cells a' c') 1 rfl rfl rfl rfl (Nat.le_refl _) rfl rfl rfl (VO.go (VO.nil ?_)))))))
  exact VC.ret (Ret.cell 2 rfl rfl rfl (RdL.many 1 rfl rfl) (Imp.pick 0 rfl Imp.nil).ent ⟨a', c', rfl, rfl⟩)

/-! ### A chain is entered -/
def maxI : Int := 9223372036854775807
def ent1 (R : RepM) (c : ChM) : RepM := { R with adm := R.adm.expireM maxI, rds := { R.rds with l := [] }, ch := c }
def nlB (R : RepM) (c : ChM) : Bool := (sinceOf c R.id).2 && decide ((sinceOf c R.id).1 ≠ R.since)
def nwB (R : RepM) (c : ChM) : Bool := !(sinceOf c R.id).2 || decide ((sinceOf c R.id).1 ≠ R.since)
def ent2 (R : RepM) (c : ChM) : RepM := { ent1 R c with log := if nlB R c then [] else R.log, win := if nlB R c then WinM.new R.cap else R.win }
def ent3 (R : RepM) (c : ChM) : RepM := { ent2 R c with whole := if nwB R c then false else R.whole }
def ent4 (R : RepM) (c : ChM) : RepM := { ent3 R c with since := (sinceOf c R.id).1, linked := false, have_ := 0, base := -1, win := { (ent2 R c).win with sent := (ent2 R c).win.last, limit := 0 } }
def ent5 (R : RepM) (c : ChM) : RepM := if (ent4 R c).whole then { ent4 R c with start := (ent4 R c).win.last } else ent4 R c
def entG (R : RepM) (c : ChM) : List SndM := refs c.epoch (R.adm.sch.goneM maxI) 9 ++ refs c.epoch (R.rds.l.map RdM.f) 9
def enterR (R : RepM) (c : ChM) : RepM × List SndM := ((ent5 R c).finishR, entG R c ++ (ent5 R c).finishM ++ (ent5 R c).finishR.greetM ++ (ent5 R c).finishR.baseM ++ (ent5 R c).finishR.masterM)
theorem ent1_ok {R : RepM} (h : R.Ok) {c : ChM} (hc : ChS c) : (ent1 R c).Ok := ⟨hc, h.win, h.last, h.logc, h.logi, h.rc0, h.rc1, by show (0 : Int) ≤ _; have := h.rc0; exact Int.le_trans (by decide) this, h.rn0, h.rn1, fun y hy => absurd hy (List.not_mem_nil), (by
    obtain ⟨h1, h2, h3⟩ := expire_wf h.wf maxI
    intro q hq g hg
    have := exp_calls h.wf h.calls maxI q hq g hg
    exact this), (expire_wf h.wf maxI).1⟩
theorem ent2_ok {R : RepM} (h : R.Ok) {c : ChM} (hc : ChS c) (h0 : 1 ≤ R.cap) (h1 : R.cap ≤ 16) : (ent2 R c).Ok := by
  have k := ent1_ok h hc
  refine ⟨hc, ?_, ?_, ?_, ?_, k.rc0, k.rc1, k.rl, k.rn0, k.rn1, k.rcl, k.calls, k.wf⟩
  · show (if nlB R c then WinM.new R.cap else R.win).Ok; split; exact WinM.new_ok h0 h1; exact h.win
  · show (if nlB R c then WinM.new R.cap else R.win).last = ((if nlB R c then [] else R.log).length : Int); split; rfl; exact h.last
  · show ∀ e ∈ (if nlB R c then [] else R.log), _; split; exact fun e he => absurd he List.not_mem_nil; exact h.logc
  · show ∀ e ∈ (if nlB R c then [] else R.log), 1 ≤ e.index ∧ e.index ≤ ((if nlB R c then [] else R.log).length : Int); split; exact fun e he => absurd he List.not_mem_nil; exact h.logi
theorem ent4_ok {R : RepM} (h : R.Ok) {c : ChM} (hc : ChS c) (h0 : 1 ≤ R.cap) (h1 : R.cap ≤ 16) : (ent4 R c).Ok := by
  have k := ent2_ok h hc h0 h1
  have w := k.win
  exact ⟨hc, ⟨w.cap0, w.cap1, w.done0, w.done1, w.last1, by have := w.done0; have := w.done1; show 0 ≤ (ent2 R c).win.last; omega, Int.le_refl _, Int.le_refl _, (by decide : (0 : Int) ≤ 4112)⟩, k.last, k.logc, k.logi, k.rc0, k.rc1, k.rl, k.rn0, k.rn1, k.rcl, k.calls, k.wf⟩
theorem ent5_ok {R : RepM} (h : R.Ok) {c : ChM} (hc : ChS c) (h0 : 1 ≤ R.cap) (h1 : R.cap ≤ 16) : (ent5 R c).Ok := by
  have k := ent4_ok h hc h0 h1
  unfold ent5
  split
  · exact ⟨k.ch, k.win, k.last, k.logc, k.logi, k.rc0, k.rc1, k.rl, k.rn0, k.rn1, k.rcl, k.calls, k.wf⟩
  · exact k
theorem enterR_ok {R : RepM} (h : R.Ok) {c : ChM} (hc : ChS c) (h0 : 1 ≤ R.cap) (h1 : R.cap ≤ 16) : (enterR R c).1.Ok := finishR_ok (ent5_ok h hc h0 h1)
section
variable {p : Nat} {R : RepM} {b : Nat} {S : List SndM} {c : ChM} {a : Option Addr} {cap : Nat}
set_option maxRecDepth 100000 in
set_option maxHeartbeats 8000000 in
theorem enter_spec (Fr : Nat → Prop) (w : World) (ok : R.Ok) (hc0 : 1 ≤ R.cap) (hc1 : R.cap ≤ 16) (hS : S.length ≤ 800000) (hm : RwIn memC 2 Fr w a c.ms) (hc : ChS c) : Tri Tryz.prog 61 [.pointer (some ⟨p, 0, none⟩), .agg (c.cells a cap).toArray, sendF b] Fr w [repH p R, outH b S]
    (fun v L => v = .tuple #[] ∧ L = [repH p (enterR R c).1, outH b (S ++ (enterR R c).2)]) := by
  have hg64 := gone_few ok maxI
  have hgc := gone_ok ok.calls maxI
  have hrl := ok.rl; have hrc := ok.rc1
  have hcl := hc.len
  have ok2 := ent2_ok ok hc hc0 hc1
  have ok4 := ent4_ok ok hc hc0 hc1
  have ok5 := ent5_ok ok hc hc0 hc1
  refine Tri.of 143 Tryz.func61 rfl (by kernel_rfl) tabOk rfl rfl ?_
  refine VC.seq (VC.region (VO.go (VO.boxA (vs := c.cells a cap) rfl fun cb => VO.go (VO.nil ?_))))
  refine VC.opn 1 rfl (HOpn.rep p R) ?_
  rintro x -
  refine VC.ent (L' := [admH x.ap R.adm, pt p (repCs R x) repT, slH memT 2 x.a R.ch.ms.length x.c (flat memC R.ch.ms), logH x.lp R.log, winH x.wp R.win, rdsH x.rp R.rds, pt cb (c.cells a cap) chT, outH b S]) (Imp.pick 4 rfl (Imp.pick 0 rfl (Imp.pick 0 rfl (Imp.pick 0 rfl (Imp.pick 0 rfl (Imp.pick 0 rfl (Imp.pick 0 rfl (Imp.pick 0 rfl Imp.nil)))))))).ent ?_
  refine VC.seq ?_
  refine VC.draw (ts 0 4 (ts 5 4 (.only 4 (.only 9 (ts 10 2 .nil))))) (by kernel_rfl) (by decide +kernel) ?_
  (repeat (first|refine yG (yN ?_)|refine yG (yD 0 rfl rfl rfl rfl rfl ?_)|refine yG (yD 1 rfl rfl rfl rfl rfl ?_)))
  refine VA.go (VA.opP (OpT.call (Lc := [admH x.ap R.adm]) (R := goneL x.ap (R.adm.expireM maxI) (R.adm.sch.goneM maxI)) rfl (.refl _) (fun Fr w hF hs hS => Adm.flush_spec Fr w x.ap R.adm ok.calls)) rfl ?_ ?_)
  · rintro _ _ ⟨_, ⟨r, rok, hrx, rfl, rfl⟩, rfl⟩
    exact (by (try refine Pd.st ?_);(repeat (first|exact Pd.nil|exact Pd.fnil|refine Pd.inner ?_|refine Pd.skip (by decide +kernel) ?_|refine zf (zo 0 rfl rfl) ?_|refine zf (zo 1 rfl rfl) ?_|refine zf (zo 2 rfl rfl) ?_|refine zf (zm 0 rfl rfl) ?_|refine zf (zm 1 rfl rfl) ?_|refine zf (zm 2 rfl rfl) ?_|refine zc (zo 0 rfl rfl) ?_|refine zc (zo 1 rfl rfl) ?_|refine zc (zo 2 rfl rfl) ?_|refine zc (zm 0 rfl rfl) ?_|refine zc (zm 1 rfl rfl) ?_|refine zc (zm 2 rfl rfl) ?_)))
  rintro _ _ ⟨_, ⟨r, rok, hrx, rfl, rfl⟩, rfl⟩
  (repeat (first|refine yG (yN ?_)|refine yG (yD 0 rfl rfl rfl rfl rfl ?_)|refine yG (yD 1 rfl rfl rfl rfl rfl ?_)|refine yG (yD 2 rfl rfl rfl rfl rfl ?_)))
  refine VA.ent (L' := [rdsH x.rp R.rds, r.h frT, admH x.ap (R.adm.expireM maxI), pt p (repCs R x) repT, slH memT 2 x.a R.ch.ms.length x.c (flat memC R.ch.ms), logH x.lp R.log, winH x.wp R.win, pt cb (c.cells a cap) chT, outH b S]) (Imp.pick 6 rfl (Imp.pick 0 rfl (Imp.pick 0 rfl (Imp.pick 0 rfl (Imp.pick 0 rfl (Imp.pick 0 rfl (Imp.pick 0 rfl (Imp.pick 0 rfl (Imp.pick 0 rfl Imp.nil))))))))).ent ?_
  refine VA.go (VA.opP (OpT.call (Lc := [rdsH x.rp R.rds]) (R := fun v L => ∃ a c rows, rows.map Prod.fst = R.rds.l ∧ v = .slice a rows.length c ∧ L = [rdsH x.rp { R.rds with l := [] }, slH rdT 34 a rows.length c (flat rdC rows)]) rfl (.refl _) (fun Fr w hF hs hS => Rd.flush_spec Fr w ok.rc0 (by omega))) rfl ?_ ?_)
  · rintro _ _ ⟨_, ⟨ga, gc, rows, hrows, rfl, rfl⟩, rfl⟩
    exact (by (try refine Pd.st ?_);(repeat (first|exact Pd.nil|exact Pd.fnil|refine Pd.inner ?_|refine Pd.skip (by decide +kernel) ?_|refine zf (zo 0 rfl rfl) ?_|refine zf (zo 1 rfl rfl) ?_|refine zf (zo 2 rfl rfl) ?_|refine zf (zo 3 rfl rfl) ?_|refine zf (zo 4 rfl rfl) ?_|refine zf (zm 0 rfl rfl) ?_|refine zf (zm 1 rfl rfl) ?_|refine zf (zm 2 rfl rfl) ?_|refine zf (zm 3 rfl rfl) ?_|refine zf (zm 4 rfl rfl) ?_|refine zc (zo 0 rfl rfl) ?_|refine zc (zo 1 rfl rfl) ?_|refine zc (zo 2 rfl rfl) ?_|refine zc (zo 3 rfl rfl) ?_|refine zc (zo 4 rfl rfl) ?_|refine zc (zm 0 rfl rfl) ?_|refine zc (zm 1 rfl rfl) ?_|refine zc (zm 2 rfl rfl) ?_|refine zc (zm 3 rfl rfl) ?_|refine zc (zm 4 rfl rfl) ?_)))
  rintro _ _ ⟨_, ⟨ga, gc, rows, hrows, rfl, rfl⟩, rfl⟩
  have hrowl : rows.length ≤ 16 := by
    have := congrArg List.length hrows
    rw [List.length_map] at this
    omega
  have hrv : r.v = .slice r.addr r.xs.length r.cap := rfl
  rw [hrv]
  (repeat (first|refine yG (yN ?_)|refine yG (yD 0 rfl rfl rfl rfl rfl ?_)|refine yG (yD 1 rfl rfl rfl rfl rfl ?_)|refine yG (yD 2 rfl rfl rfl rfl rfl ?_)|refine yG (yD 3 rfl rfl rfl rfl rfl ?_)|refine yG (yD 4 rfl rfl rfl rfl rfl ?_)))
  show VC _ _ _ [rdsH x.rp (ent1 R c).rds, slH rdT 34 ga rows.length gc (flat rdC rows), r.h frT, admH x.ap (ent1 R c).adm, pt p (repCs R x) repT, slH memT 2 x.a R.ch.ms.length x.c (flat memC R.ch.ms), logH x.lp R.log, winH x.wp R.win, pt cb (c.cells a cap) chT, outH b S] _
  refine VC.seq (VC.region ?_)
  (repeat (first|refine zS ?_|refine zR ?_|refine zB ?_|refine zL ?_|refine zC ?_|refine zG (zN ?_)|refine zG (zD 0 rfl rfl rfl rfl ?_)))
  refine VO.go (VO.ldA 8 (c.cells a cap) rfl rfl rfl rfl ?_)
  refine VO.go (VO.call (Lc := []) (fun Fr w hF hs _ => copied_spec Fr w (hm.of hF hs) (by omega)) rfl rfl ?_)
  rintro _ _ ⟨a', c', rfl, rfl⟩
  refine VO.go (VO.stA (vs := c.cells a' c') (cs' := repCs (ent1 R c) { x with a := a', c := c' }) 5 rfl rfl rfl rfl (by show 4 + 3 ≤ 17; omega) rfl rfl rfl ?_)
  refine VO.go (VO.nil ?_)
  refine VC.ent (L' := [pt p (repCs (ent1 R c) { x with a := a', c := c' }) repT, slH memT 2 a' c.ms.length c' (flat memC c.ms), logH x.lp R.log, winH x.wp R.win, admH x.ap (ent1 R c).adm, rdsH x.rp (ent1 R c).rds, slH rdT 34 ga rows.length gc (flat rdC rows), r.h frT, outH b S]) (Imp.pick 5 rfl (Imp.pick 0 rfl (Imp.pick 5 rfl (Imp.pick 5 rfl (Imp.pick 3 rfl (Imp.pick 0 rfl (Imp.pick 0 rfl (Imp.pick 0 rfl (Imp.pick 2 rfl Imp.nil))))))))).ent ?_
  refine VC.seq (VC.draw (ts 0 8 (.only 8 (ts 9 5 .nil))) (by kernel_rfl) (by decide +kernel) ?_)
  (repeat (first|refine yG (yN ?_)|refine yG (yD 0 rfl rfl rfl rfl rfl ?_)))
  refine VA.go (VA.ldA 0 (c.cells a' c') rfl rfl rfl rfl rfl ?_)
  (repeat (first|refine yG (yN ?_)|refine yG (yD 0 rfl rfl rfl rfl rfl ?_)))
  refine VA.go (VA.callR (fun Fr w hF hs hS => Ch.since_spec Fr w (RwIn.slH memC_len (hS.at_ 1 rfl)) (by omega) R.id) rfl rfl (by (try refine Pd.st ?_);(repeat (first|exact Pd.nil|exact Pd.fnil|refine Pd.inner ?_|refine Pd.skip (by decide +kernel) ?_|refine zf (zo 0 rfl rfl) ?_|refine zf (zm 0 rfl rfl) ?_|refine zc (zo 0 rfl rfl) ?_|refine zc (zm 0 rfl rfl) ?_))) ?_)
  (repeat (first|refine yG (yN ?_)|refine yG (yD 0 rfl rfl rfl rfl rfl ?_)))
  have hE : ∀ {E : Env} {s : RepS}, True := fun {_} {_} => trivial
  refine VC.seq ?_
  refine VC.meetS (σ := RepS) (fun _ => [(0, .pointer (some ⟨p, 0, none⟩)), (2, sendF b), (6, .slice r.addr r.xs.length r.cap), (7, .slice ga rows.length gc), (8, .int .i64 (sinceOf c R.id).1), (9, .bool (sinceOf c R.id).2)])
    (fun y => [pt p (repCs (ent2 R c) y) repT, slH memT 2 y.a c.ms.length y.c (flat memC c.ms), logH y.lp (ent2 R c).log, winH y.wp (ent2 R c).win, admH y.ap (ent1 R c).adm, rdsH y.rp (ent1 R c).rds, slH rdT 34 ga rows.length gc (flat rdC rows), r.h frT, outH b S]) (fun _ => True) ?_ ?_
  · have S6 : ∀ {E : Env}, Vg.look E 0 = some (.pointer (some ⟨p, 0, none⟩)) → Vg.look E 2 = some (sendF b) → Vg.look E 6 = some (.slice r.addr r.xs.length r.cap) → Vg.look E 7 = some (.slice ga rows.length gc) → Vg.look E 8 = some (.int .i64 (sinceOf c R.id).1) → Vg.look E 9 = some (.bool (sinceOf c R.id).2) →
        Sub [(0, .pointer (some ⟨p, 0, none⟩)), (2, sendF b), (6, .slice r.addr r.xs.length r.cap), (7, .slice ga rows.length gc), (8, .int .i64 (sinceOf c R.id).1), (9, .bool (sinceOf c R.id).2)] E := fun h0 h1 h2 h3 h4 h5 => Sub.cons h0 (Sub.cons h1 (Sub.cons h2 (Sub.cons h3 (Sub.cons h4 (Sub.cons h5 (Sub.nil _))))))
    have no : nlB R c = false → ∀ {X : Cx}, Ent X [pt p (repCs (ent1 R c) { x with a := a', c := c' }) repT, slH memT 2 a' c.ms.length c' (flat memC c.ms), logH x.lp R.log, winH x.wp R.win, admH x.ap (ent1 R c).adm, rdsH x.rp (ent1 R c).rds, slH rdT 34 ga rows.length gc (flat rdC rows), r.h frT, outH b S]
        [pt p (repCs (ent2 R c) { x with a := a', c := c' }) repT, slH memT 2 a' c.ms.length c' (flat memC c.ms), logH x.lp (ent2 R c).log, winH x.wp (ent2 R c).win, admH x.ap (ent1 R c).adm, rdsH x.rp (ent1 R c).rds, slH rdT 34 ga rows.length gc (flat rdC rows), r.h frT, outH b S] := fun h {X} => by
      rw [show (ent2 R c).log = R.log by show (if nlB R c then [] else R.log) = _; rw [h]; rfl, show (ent2 R c).win = R.win by show (if nlB R c then WinM.new R.cap else R.win) = _; rw [h]; rfl]
      exact Ent.refl
    (repeat (first|refine zS ?_|refine zR ?_|refine zB ?_|refine zL ?_|refine zC ?_|refine zG (zN ?_)|refine zG (zD 0 rfl rfl rfl rfl ?_)))
    by_cases h1 : (sinceOf c R.id).2 = true
    rotate_left
    · have h1 : (sinceOf c R.id).2 = false := by simpa using h1
      refine VO.go (VO.yes 42 false rfl h1 ?_)
      (repeat (first|refine zS ?_|refine zR ?_|refine zB ?_|refine zL ?_|refine zC ?_|refine zG (zN ?_)|refine zG (zD 0 rfl rfl rfl rfl ?_)|refine zG (zU rfl rfl rfl ?_)))
      refine VC.condF rfl (VC.skip ?_)
      exact ⟨{ x with a := a', c := c' }, trivial, S6 rfl rfl rfl rfl rfl rfl, no (by rw [nlB, h1]; rfl)⟩
    refine VO.go (VO.yes 42 true rfl h1 ?_)
    (repeat (first|refine zS ?_|refine zR ?_|refine zB ?_|refine zL ?_|refine zC ?_|refine zG (zN ?_)|refine zG (zD 0 rfl rfl rfl rfl ?_)|refine zG (zU rfl rfl rfl ?_)))
    refine VC.condNE (i := (sinceOf c R.id).1) (j := R.since) rfl (fun h2 => ?_) (fun h2 => VC.skip ?_)
    rotate_left
    · exact ⟨{ x with a := a', c := c' }, trivial, S6 rfl rfl rfl rfl rfl rfl, no (by rw [nlB, h1, h2]; simp)⟩
    (repeat (first|refine zS ?_|refine zR ?_|refine zB ?_|refine zL ?_|refine zC ?_|refine zG (zN ?_)|refine zG (zD 0 rfl rfl rfl rfl ?_)))
    refine VO.go (VO.call (Lc := []) (fun Fr w _ _ _ => Lg.new_spec Fr w) rfl rfl ?_)
    rintro _ _ ⟨lp, rfl, rfl⟩
    refine VO.go (VO.st 1 (cs' := repCs (ent1 R c) { x with a := a', c := c', lp := lp }) rfl rfl rfl rfl (by show 9 < 17; omega) rfl rfl ?_)
    (repeat (first|refine zS ?_|refine zR ?_|refine zB ?_|refine zL ?_|refine zC ?_|refine zG (zN ?_)|refine zG (zD 0 rfl rfl rfl rfl ?_)|refine zG (zD 1 rfl rfl rfl rfl ?_)))
    refine VO.go (VO.call (Lc := []) (fun Fr w _ _ _ => Win.new_spec Fr w hc0 hc1) rfl rfl ?_)
    rintro _ _ ⟨wp, rfl, rfl⟩
    (repeat (first|refine zS ?_|refine zR ?_|refine zB ?_|refine zL ?_|refine zC ?_|refine zG (zN ?_)|refine zG (zD 0 rfl rfl rfl rfl ?_)))
    refine VO.go (VO.st 2 (cs' := repCs (ent1 R c) { x with a := a', c := c', lp := lp, wp := wp }) rfl rfl rfl rfl (by show 10 < 17; omega) rfl rfl ?_)
    (repeat (first|refine zS ?_|refine zR ?_|refine zB ?_|refine zL ?_|refine zC ?_|refine zG (zN ?_)|refine zG (zD 0 rfl rfl rfl rfl ?_)))
    have hn : nlB R c = true := by rw [nlB, h1, decide_eq_true h2]; rfl
    refine ⟨{ x with a := a', c := c', lp := lp, wp := wp }, trivial, S6 rfl rfl rfl rfl rfl rfl, ?_⟩
    rw [show (ent2 R c).log = [] by show (if nlB R c then [] else R.log) = _; rw [hn]; rfl, show (ent2 R c).win = WinM.new R.cap by show (if nlB R c then WinM.new R.cap else R.win) = _; rw [hn]; rfl]
    exact (Imp.pick 2 rfl (Imp.pick 2 rfl (Imp.pick 1 rfl (Imp.pick 0 rfl (Imp.pick 2 rfl (Imp.pick 2 rfl (Imp.pick 2 rfl (Imp.pick 2 rfl (Imp.pick 2 rfl Imp.nil))))))))).ent
  rintro y -
  have ewhole : (ent2 R c).whole = R.whole := rfl
  refine VC.seq ?_
  refine VC.meetS (σ := Unit) (fun _ => [(0, .pointer (some ⟨p, 0, none⟩)), (2, sendF b), (6, .slice r.addr r.xs.length r.cap), (7, .slice ga rows.length gc), (8, .int .i64 (sinceOf c R.id).1)])
    (fun _ => [pt p (repCs (ent3 R c) y) repT, slH memT 2 y.a c.ms.length y.c (flat memC c.ms), logH y.lp (ent2 R c).log, winH y.wp (ent2 R c).win, admH y.ap (ent1 R c).adm, rdsH y.rp (ent1 R c).rds, slH rdT 34 ga rows.length gc (flat rdC rows), r.h frT, outH b S]) (fun _ => True) ?_ ?_
  · have S5 : ∀ {E : Env}, Vg.look E 0 = some (.pointer (some ⟨p, 0, none⟩)) → Vg.look E 2 = some (sendF b) → Vg.look E 6 = some (.slice r.addr r.xs.length r.cap) → Vg.look E 7 = some (.slice ga rows.length gc) → Vg.look E 8 = some (.int .i64 (sinceOf c R.id).1) →
        Sub [(0, .pointer (some ⟨p, 0, none⟩)), (2, sendF b), (6, .slice r.addr r.xs.length r.cap), (7, .slice ga rows.length gc), (8, .int .i64 (sinceOf c R.id).1)] E := fun h0 h1 h2 h3 h4 => Sub.cons h0 (Sub.cons h1 (Sub.cons h2 (Sub.cons h3 (Sub.cons h4 (Sub.nil _)))))
    have yes : nwB R c = true → repCs (ent3 R c) y = repCs { ent2 R c with whole := false } y := fun h => by
      rw [show ent3 R c = { ent2 R c with whole := false } by unfold ent3; rw [h]; rfl]
    have no : nwB R c = false → repCs (ent3 R c) y = repCs (ent2 R c) y := fun h => by
      rw [show ent3 R c = ent2 R c by unfold ent3; rw [h]; rfl]
    (repeat (first|refine zS ?_|refine zR ?_|refine zB ?_|refine zL ?_|refine zC ?_|refine zG (zN ?_)|refine zG (zD 0 rfl rfl rfl rfl ?_)))
    by_cases h1 : (sinceOf c R.id).2 = true
    rotate_left
    · have h1 : (sinceOf c R.id).2 = false := by simpa using h1
      refine VO.go (VO.yes 67 true rfl (by rw [h1]; rfl) ?_)
      (repeat (first|refine zS ?_|refine zR ?_|refine zB ?_|refine zL ?_|refine zC ?_|refine zG (zN ?_)|refine zG (zD 0 rfl rfl rfl rfl ?_)|refine zG (zU rfl rfl rfl ?_)))
      refine VC.condT rfl ?_
      (repeat (first|refine zS ?_|refine zR ?_|refine zB ?_|refine zL ?_|refine zC ?_|refine zG (zN ?_)|refine zG (zD 0 rfl rfl rfl rfl ?_)))
      refine VO.go (VO.st 0 (cs' := repCs { ent2 R c with whole := false } y) rfl rfl rfl rfl (by show 8 < 17; omega) rfl rfl ?_)
      (repeat (first|refine zS ?_|refine zR ?_|refine zB ?_|refine zL ?_|refine zC ?_|refine zG (zN ?_)|refine zG (zD 0 rfl rfl rfl rfl ?_)))
      refine ⟨(), trivial, S5 rfl rfl rfl rfl rfl, ?_⟩
      dsimp only
      rw [yes (by rw [nwB, h1]; rfl)]
      exact Ent.refl
    refine VO.go (VO.yes 67 false rfl (by rw [h1]; rfl) ?_)
    (repeat (first|refine zS ?_|refine zR ?_|refine zB ?_|refine zL ?_|refine zC ?_|refine zG (zN ?_)|refine zG (zD 0 rfl rfl rfl rfl ?_)|refine zG (zU rfl rfl rfl ?_)))
    refine VC.condNE (i := (sinceOf c R.id).1) (j := R.since) rfl (fun h2 => ?_) (fun h2 => VC.skip ?_)
    · (repeat (first|refine zS ?_|refine zR ?_|refine zB ?_|refine zL ?_|refine zC ?_|refine zG (zN ?_)|refine zG (zD 0 rfl rfl rfl rfl ?_)))
      refine VO.go (VO.st 0 (cs' := repCs { ent2 R c with whole := false } y) rfl rfl rfl rfl (by show 8 < 17; omega) rfl rfl ?_)
      (repeat (first|refine zS ?_|refine zR ?_|refine zB ?_|refine zL ?_|refine zC ?_|refine zG (zN ?_)|refine zG (zD 0 rfl rfl rfl rfl ?_)))
      refine ⟨(), trivial, S5 rfl rfl rfl rfl rfl, ?_⟩
      dsimp only
      rw [yes (by rw [nwB, h1, decide_eq_true h2]; rfl)]
      exact Ent.refl
    · refine ⟨(), trivial, S5 rfl rfl rfl rfl rfl, ?_⟩
      dsimp only
      rw [no (by rw [nwB, h1, h2]; simp)]
      exact Ent.refl
  rintro _ -
  (repeat (first|refine zS ?_|refine zR ?_|refine zB ?_|refine zL ?_|refine zC ?_|refine zG (zN ?_)|refine zG (zD 0 rfl rfl rfl rfl ?_)))
  refine VO.go (VO.st 0 (cs' := repCs { ent3 R c with since := (sinceOf c R.id).1 } y) rfl rfl rfl rfl (by show 7 < 17; omega) rfl rfl ?_)
  refine VO.go (VO.nil ?_)
  (repeat (first|refine zS ?_|refine zR ?_|refine zB ?_|refine zL ?_|refine zC ?_|refine zG (zN ?_)|refine zG (zD 0 rfl rfl rfl rfl ?_)))
  refine VO.go (VO.st 0 (cs' := repCs { ent3 R c with since := (sinceOf c R.id).1, linked := false } y) rfl rfl rfl rfl (by show 15 < 17; omega) rfl rfl ?_)
  (repeat (first|refine zS ?_|refine zR ?_|refine zB ?_|refine zL ?_|refine zC ?_|refine zG (zN ?_)|refine zG (zD 0 rfl rfl rfl rfl ?_)))
  refine VO.go (VO.st 0 (cs' := repCs { ent3 R c with since := (sinceOf c R.id).1, linked := false, have_ := 0 } y) rfl rfl rfl rfl (by show 16 < 17; omega) rfl rfl ?_)
  (repeat (first|refine zS ?_|refine zR ?_|refine zB ?_|refine zL ?_|refine zC ?_|refine zG (zN ?_)|refine zG (zD 0 rfl rfl rfl rfl ?_)))
  refine VO.go (VO.st 0 (cs' := repCs (ent4 R c) y) rfl rfl rfl rfl (by show 14 < 17; omega) rfl rfl ?_)
  (repeat (first|refine zS ?_|refine zR ?_|refine zB ?_|refine zL ?_|refine zC ?_|refine zG (zN ?_)|refine zG (zD 0 rfl rfl rfl rfl ?_)))
  refine VO.go (VO.callAt 3 rfl (fun Fr w hF hs hS => Win.renew_spec Fr w ok2.win) rfl (ψ := fun v H => v = .tuple #[] ∧ H = winH y.wp (ent4 R c).win) (fun v L h => ⟨_, h.2, h.1, rfl⟩) ?_)
  rintro _ _ ⟨rfl, rfl⟩
  refine VO.go (VO.nil ?_)
  show VC _ _ _ [pt p (repCs (ent4 R c) y) repT, slH memT 2 y.a c.ms.length y.c (flat memC c.ms), logH y.lp (ent4 R c).log, winH y.wp (ent4 R c).win, admH y.ap (ent4 R c).adm, rdsH y.rp (ent4 R c).rds, slH rdT 34 ga rows.length gc (flat rdC rows), r.h frT, outH b S] _
  have q0 := ok4.win.cap0
  refine VC.seq ?_
  refine VC.meetS (σ := Unit) (fun _ => [(0, .pointer (some ⟨p, 0, none⟩)), (2, sendF b), (6, .slice r.addr r.xs.length r.cap), (7, .slice ga rows.length gc)])
    (fun _ => [pt p (repCs (ent5 R c) y) repT, slH memT 2 y.a c.ms.length y.c (flat memC c.ms), logH y.lp (ent5 R c).log, winH y.wp (ent5 R c).win, admH y.ap (ent5 R c).adm, rdsH y.rp (ent5 R c).rds, slH rdT 34 ga rows.length gc (flat rdC rows), r.h frT, outH b S]) (fun _ => True) ?_ ?_
  · (repeat (first|refine zS ?_|refine zR ?_|refine zB ?_|refine zL ?_|refine zC ?_|refine zG (zN ?_)|refine zG (zD 0 rfl rfl rfl rfl ?_)))
    refine VC.cond rfl (fun h1 => ?_) (fun h1 => VC.skip ?_)
    · have e5 : ent5 R c = { ent4 R c with start := (ent4 R c).win.last } := by rw [ent5, if_pos h1]
      (repeat (first|refine zS ?_|refine zR ?_|refine zB ?_|refine zL ?_|refine zC ?_|refine zG (zN ?_)|refine zG (zD 0 rfl rfl rfl rfl ?_)))
      refine VO.go (VO.callV' (fun Fr w hF hs hS => Win.last_spec Fr w (hS.blk 3 rfl) q0) rfl ?_)
      (repeat (first|refine zS ?_|refine zR ?_|refine zB ?_|refine zL ?_|refine zC ?_|refine zG (zN ?_)|refine zG (zD 0 rfl rfl rfl rfl ?_)))
      refine VO.go (VO.st 0 (cs' := repCs { ent4 R c with start := (ent4 R c).win.last } y) rfl rfl rfl rfl (by show 13 < 17; omega) rfl rfl ?_)
      (repeat (first|refine zS ?_|refine zR ?_|refine zB ?_|refine zL ?_|refine zC ?_|refine zG (zN ?_)|refine zG (zD 0 rfl rfl rfl rfl ?_)))
      refine ⟨(), trivial, Sub.cons rfl (Sub.cons rfl (Sub.cons rfl (Sub.cons rfl (Sub.nil _)))), ?_⟩
      dsimp only
      rw [e5]; exact Ent.refl
    · have e5 : ent5 R c = ent4 R c := by rw [ent5, if_neg (by rw [h1]; simp)]
      refine ⟨(), trivial, Sub.cons rfl (Sub.cons rfl (Sub.cons rfl (Sub.cons rfl (Sub.nil _)))), ?_⟩
      dsimp only
      rw [e5]; exact Ent.refl
  rintro _ -
  have hch : (ent5 R c).ch = c := by unfold ent5; split <;> rfl
  have hhp : ∀ S' : List SndM, [pt p (repCs (ent5 R c) y) repT, slH memT 2 y.a c.ms.length y.c (flat memC c.ms), logH y.lp (ent5 R c).log, winH y.wp (ent5 R c).win, admH y.ap (ent5 R c).adm, rdsH y.rp (ent5 R c).rds, slH rdT 34 ga rows.length gc (flat rdC rows), r.h frT, outH b S']
    = [pt p (repCs (ent5 R c) y) repT, slH memT 2 y.a (ent5 R c).ch.ms.length y.c (flat memC (ent5 R c).ch.ms), logH y.lp (ent5 R c).log, winH y.wp (ent5 R c).win, admH y.ap (ent5 R c).adm, rdsH y.rp (ent5 R c).rds, slH rdT 34 ga rows.length gc (flat rdC rows), r.h frT, outH b S'] := fun S' => by rw [hch]
  rw [hhp]
  generalize hR5 : ent5 R c = R5 at *
  (repeat (first|refine zS ?_|refine zR ?_|refine zB ?_|refine zL ?_|refine zC ?_|refine zG (zN ?_)|refine zG (zD 0 rfl rfl rfl rfl ?_)))
  refine VC.loop (σ := Nat) (fun i => [(0, .pointer (some ⟨p, 0, none⟩)), (2, sendF b), (7, .slice ga rows.length gc), (108, .slice r.addr r.xs.length r.cap), (109, .int .i64 r.xs.length), (110, .int .i64 i)])
    (fun i => [pt p (repCs R5 y) repT, slH memT 2 y.a R5.ch.ms.length y.c (flat memC R5.ch.ms), logH y.lp R5.log, winH y.wp R5.win, admH y.ap R5.adm, rdsH y.rp R5.rds, slH rdT 34 ga rows.length gc (flat rdC rows), r.h frT, outH b (S ++ refs c.epoch ((R.adm.sch.goneM maxI).take i) 9)])
    (fun i => i ≤ r.xs.length) (fun i => r.xs.length - i) 0
    (Nat.zero_le _) (Sub.cons rfl (Sub.cons rfl (Sub.cons rfl (Sub.cons rfl (Sub.cons rfl (Sub.cons rfl (Sub.nil _))))))) (by rw [List.take_zero, show refs c.epoch [] 9 = [] from rfl, List.append_nil]; exact Ent.refl) ?_
  intro i hi
  have hxl : r.xs.length = (R.adm.sch.goneM maxI).length := by rw [← hrx]; simp
  (repeat (first|refine zS ?_|refine zR ?_|refine zB ?_|refine zL ?_|refine zC ?_|refine zG (zN ?_)|refine zG (zD 0 rfl rfl rfl rfl ?_)))
  refine VC.condP rfl (fun h1 => VC.skip ?_) (fun h1 => VC.exit ?_)
  · have hi2 : i < r.xs.length := by omega
    obtain ⟨g, hg⟩ : ∃ g, r.xs[i]? = some g := ⟨_, List.getElem?_eq_getElem hi2⟩
    have hgg : (R.adm.sch.goneM maxI)[i]? = some g.1 := by rw [← hrx, List.getElem?_map, hg]; rfl
    have hcg := hgc g.1 (List.mem_of_getElem? hgg)
    have hc6 := ok.wf.c1
    obtain ⟨gb, go, r1, r2, hrd⟩ := rok.ld (t := frT) hg rfl
    rw [r2]
    (repeat (first|refine zS ?_|refine zR ?_|refine zB ?_|refine zL ?_|refine zC ?_|refine zG (zN ?_)|refine zG (zD 0 rfl rfl rfl rfl ?_)))
    refine VO.go (VO.light (light_idx i rfl rfl rfl rfl rfl rfl hi2) ?_)
    refine VO.go (VO.load rfl rfl ((hrd 7 rfl).1 _ rfl rfl) ?_)
    refine VO.go (VO.alloc rfl fun tb => ?_)
    refine VO.go (VO.stA (vs := fmc g) 0 rfl rfl rfl rfl (Nat.le_refl _) rfl rfl rfl ?_)
    (repeat (first|refine zS ?_|refine zR ?_|refine zB ?_|refine zL ?_|refine zC ?_|refine zG (zN ?_)|refine zG (zD 0 rfl rfl rfl rfl ?_)))
    refine VO.go (VO.ldA 0 (fmc g) rfl rfl rfl rfl ?_)
    refine VO.go (VO.callAt 9 rfl (fun Fr w hF hs hS => refuse_spec Fr w (hS.blk 1 rfl) (by rw [List.length_append, refs, List.length_map, List.length_take]; omega) g.1 (g.2.1, 0, g.2.2) hcg.1.1 (by have := hcg.1.2; omega) 9) rfl (ψ := fun v H => v = .tuple #[] ∧ H = outH b (S ++ refs c.epoch ((R.adm.sch.goneM maxI).take i) 9 ++ [(32 + g.1.client, refuseF c.epoch g.1 9)])) (fun v L h => ⟨_, by rw [hch] at h; exact h.2, h.1, rfl⟩) ?_)
    rintro _ _ ⟨rfl, rfl⟩
    (repeat (first|refine zS ?_|refine zR ?_|refine zB ?_|refine zL ?_|refine zC ?_|refine zG (zN ?_)|refine zG (zD 0 rfl rfl rfl rfl ?_)))
    refine VO.go (VO.add rfl rfl (by omega) (by omega) ?_)
    (repeat (first|refine zS ?_|refine zR ?_|refine zB ?_|refine zL ?_|refine zC ?_|refine zG (zN ?_)|refine zG (zD 0 rfl rfl rfl rfl ?_)))
    refine ⟨i + 1, hi2, by dsimp only; omega, Sub.cons rfl (Sub.cons rfl (Sub.cons rfl (Sub.cons rfl (Sub.cons rfl (Sub.cons rfl (Sub.nil _)))))), ?_⟩
    dsimp only
    rw [show refs c.epoch ((R.adm.sch.goneM maxI).take (i + 1)) 9 = refs c.epoch ((R.adm.sch.goneM maxI).take i) 9 ++ [(32 + g.1.client, refuseF c.epoch g.1 9)] by rw [List.take_add_one, hgg]; simp [refs], ← List.append_assoc]
    exact (Imp.pick 1 rfl (Imp.pick 1 rfl (Imp.pick 1 rfl (Imp.pick 1 rfl (Imp.pick 1 rfl (Imp.pick 1 rfl (Imp.pick 1 rfl (Imp.pick 1 rfl (Imp.pick 1 rfl Imp.nil))))))))).ent
  obtain rfl : i = r.xs.length := by omega
  rw [hxl, List.take_length]
  have hrl1 : (refs c.epoch (R.adm.sch.goneM maxI) 9).length ≤ 64 := by rw [refs, List.length_map]; exact hg64
  generalize hS1 : S ++ refs c.epoch (R.adm.sch.goneM maxI) 9 = S1
  have hS1l : S1.length ≤ 800064 := by rw [← hS1, List.length_append]; omega
  refine VC.opn 6 rfl (HOpn.rl rdT ga gc rows rdC_len) ?_
  rintro q ⟨qok, hqv, hqx⟩
  show VC _ _ _ [q.h rdT, pt p (repCs R5 y) repT, slH memT 2 y.a R5.ch.ms.length y.c (flat memC R5.ch.ms), logH y.lp R5.log, winH y.wp R5.win, admH y.ap R5.adm, rdsH y.rp R5.rds, r.h frT, outH b S1] _
  (repeat (first|refine zS ?_|refine zR ?_|refine zB ?_|refine zL ?_|refine zC ?_|refine zG (zN ?_)|refine zG (zD 0 rfl rfl rfl rfl ?_)))
  have hexp : ∀ i, i ≤ rows.length → ((rows.take i).map fun y => y.1.f).length = i := fun i hi => by simp; omega
  refine VC.loop (σ := Nat) (fun i => [(0, .pointer (some ⟨p, 0, none⟩)), (2, sendF b), (119, .slice ga rows.length gc), (120, .int .i64 rows.length), (121, .int .i64 i)])
    (fun i => [q.h rdT, pt p (repCs R5 y) repT, slH memT 2 y.a R5.ch.ms.length y.c (flat memC R5.ch.ms), logH y.lp R5.log, winH y.wp R5.win, admH y.ap R5.adm, rdsH y.rp R5.rds, outH b (S1 ++ refs c.epoch ((rows.take i).map fun y => y.1.f) 9)])
    (fun i => i ≤ rows.length) (fun i => rows.length - i) 0
    (Nat.zero_le _) (Sub.cons rfl (Sub.cons rfl (Sub.cons rfl (Sub.cons rfl (Sub.cons rfl (Sub.nil _)))))) (by
      rw [List.take_zero, show refs c.epoch (List.map (fun y => y.1.f) ([] : List RdR)) 9 = [] from rfl, List.append_nil]
      exact (Imp.pick 0 rfl (Imp.pick 0 rfl (Imp.pick 0 rfl (Imp.pick 0 rfl (Imp.pick 0 rfl (Imp.pick 0 rfl (Imp.pick 0 rfl (Imp.pick 1 rfl Imp.nil)))))))).ent) ?_
  intro i hi
  (repeat (first|refine zS ?_|refine zR ?_|refine zB ?_|refine zL ?_|refine zC ?_|refine zG (zN ?_)|refine zG (zD 0 rfl rfl rfl rfl ?_)))
  refine VC.condP rfl (fun h1 => VC.skip ?_) (fun h1 => VC.exit ?_)
  · have hi2 : i < rows.length := by omega
    obtain ⟨g, hg⟩ : ∃ g, rows[i]? = some g := ⟨_, List.getElem?_eq_getElem hi2⟩
    have hgm : g.1 ∈ R.rds.l := by
      rw [← hrows]
      exact List.mem_map.2 ⟨g, List.mem_of_getElem? hg, rfl⟩
    have hcg := ok.rcl g.1 hgm
    obtain ⟨gb, go, r1, r2, hrd⟩ := qok.ld (t := rdT) (hqx ▸ hg) rfl
    obtain rfl : ga = some ⟨gb, go, none⟩ := by rw [RL.v, r2, hqx] at hqv; injection hqv with e1; exact e1.symm
    (repeat (first|refine zS ?_|refine zR ?_|refine zB ?_|refine zL ?_|refine zC ?_|refine zG (zN ?_)|refine zG (zD 0 rfl rfl rfl rfl ?_)))
    refine VO.go (VO.light (light_idx i rfl rfl rfl rfl rfl rfl hi2) ?_)
    refine VO.go (VO.load rfl rfl ((hrd 0 rfl).1 _ rfl rfl) ?_)
    refine VO.go (VO.alloc rfl fun tb => ?_)
    refine VO.go (VO.stA (vs := rdC g) 0 rfl rfl rfl rfl (Nat.le_refl _) rfl rfl rfl ?_)
    (repeat (first|refine zS ?_|refine zR ?_|refine zB ?_|refine zL ?_|refine zC ?_|refine zG (zN ?_)|refine zG (zD 0 rfl rfl rfl rfl ?_)))
    refine VO.go (VO.ldA 0 (fgC g.1.f g.2) rfl rfl rfl rfl ?_)
    refine VO.go (VO.callAt 8 rfl (fun Fr w hF hs hS => refuse_spec Fr w (hS.blk 2 rfl) (by rw [List.length_append, refs, List.length_map, hexp i (by omega)]; omega) g.1.f g.2 hcg.1 (by omega) 9) rfl (ψ := fun v H => v = .tuple #[] ∧ H = outH b (S1 ++ refs c.epoch ((rows.take i).map fun y => y.1.f) 9 ++ [(32 + g.1.f.client, refuseF c.epoch g.1.f 9)])) (fun v L h => ⟨_, by rw [hch] at h; exact h.2, h.1, rfl⟩) ?_)
    rintro _ _ ⟨rfl, rfl⟩
    (repeat (first|refine zS ?_|refine zR ?_|refine zB ?_|refine zL ?_|refine zC ?_|refine zG (zN ?_)|refine zG (zD 0 rfl rfl rfl rfl ?_)))
    refine VO.go (VO.add rfl rfl (by omega) (by omega) ?_)
    (repeat (first|refine zS ?_|refine zR ?_|refine zB ?_|refine zL ?_|refine zC ?_|refine zG (zN ?_)|refine zG (zD 0 rfl rfl rfl rfl ?_)))
    refine ⟨i + 1, hi2, by dsimp only; omega, Sub.cons rfl (Sub.cons rfl (Sub.cons rfl (Sub.cons rfl (Sub.cons rfl (Sub.nil _))))), ?_⟩
    dsimp only
    rw [show refs c.epoch ((rows.take (i + 1)).map fun y => y.1.f) 9 = refs c.epoch ((rows.take i).map fun y => y.1.f) 9 ++ [(32 + g.1.f.client, refuseF c.epoch g.1.f 9)] by rw [List.take_add_one, hg]; simp [refs], ← List.append_assoc]
    exact (Imp.pick 1 rfl (Imp.pick 1 rfl (Imp.pick 1 rfl (Imp.pick 1 rfl (Imp.pick 1 rfl (Imp.pick 1 rfl (Imp.pick 1 rfl (Imp.pick 1 rfl Imp.nil)))))))).ent
  obtain rfl : i = rows.length := by omega
  rw [List.take_length]
  have hes : S1 ++ refs c.epoch (rows.map fun y => y.1.f) 9 = S ++ entG R c := by
    rw [← hS1, entG, ← hrows, List.map_map, List.append_assoc]; rfl
  have hel : (S ++ entG R c).length ≤ 800080 := by rw [← hes, List.length_append, refs, List.length_map, List.length_map]; omega
  rw [hes]
  refine VC.ent (L' := [repH p R5, outH b (S ++ entG R c)]) (Imp.rep (R := R5) y (Imp.pick 1 rfl (Imp.pick 1 rfl (Imp.pick 1 rfl (Imp.pick 1 rfl (Imp.pick 1 rfl (Imp.pick 1 rfl (Imp.pick 1 rfl Imp.nil)))))))).ent ?_
  generalize hS2 : S ++ entG R c = S2 at *
  (repeat (first|refine zS ?_|refine zR ?_|refine zB ?_|refine zL ?_|refine zC ?_|refine zG (zN ?_)|refine zG (zD 0 rfl rfl rfl rfl ?_)))
  refine VO.go (VO.call (Lc := [repH p R5, outH b S2]) (Lr := []) (fun Fr w hF hs hS => finish_spec Fr w ok5 (by omega)) rfl rfl ?_)
  rintro _ _ ⟨rfl, rfl⟩
  have fl := finishM_len ok5
  have okf := finishR_ok ok5
  (repeat (first|refine zS ?_|refine zR ?_|refine zB ?_|refine zL ?_|refine zC ?_|refine zG (zN ?_)|refine zG (zD 0 rfl rfl rfl rfl ?_)))
  refine VO.opn 0 rfl (HOpn.rep p R5.finishR) ?_
  rintro y2 -
  show VO _ _ _ _ _ (repO p R5.finishR y2 b (S2 ++ R5.finishM)) _
  unfold repO
  (repeat (first|refine zS ?_|refine zR ?_|refine zB ?_|refine zL ?_|refine zC ?_|refine zG (zN ?_)|refine zG (zD 0 rfl rfl rfl rfl ?_)))
  refine VO.go (VO.callAt 6 rfl (fun Fr w hF hs hS => greet_spec Fr w (RepIn.pcs hS 0 rfl rfl rfl rfl rfl rfl) okf.ch okf.win (by rw [List.length_append]; omega)) rfl (ψ := fun v H => v = .tuple #[] ∧ H = outH b (S2 ++ R5.finishM ++ R5.finishR.greetM)) (fun v L h => ⟨_, h.2, h.1, rfl⟩) ?_)
  rintro _ _ ⟨rfl, rfl⟩
  have gl : R5.finishR.greetM.length ≤ 1 := by unfold RepM.greetM; split <;> simp
  (repeat (first|refine zS ?_|refine zR ?_|refine zB ?_|refine zL ?_|refine zC ?_|refine zG (zN ?_)|refine zG (zD 0 rfl rfl rfl rfl ?_)))
  refine VO.go (VO.callAt 6 rfl (fun Fr w hF hs hS => tellBase_spec Fr w (RepIn.pcs hS 0 rfl rfl rfl rfl rfl rfl) okf.ch (by rw [List.length_append, List.length_append]; omega)) rfl (ψ := fun v H => v = .tuple #[] ∧ H = outH b (S2 ++ R5.finishM ++ R5.finishR.greetM ++ R5.finishR.baseM)) (fun v L h => ⟨_, h.2, h.1, rfl⟩) ?_)
  rintro _ _ ⟨rfl, rfl⟩
  have bl : R5.finishR.baseM.length ≤ 1 := by unfold RepM.baseM; split <;> simp
  (repeat (first|refine zS ?_|refine zR ?_|refine zB ?_|refine zL ?_|refine zC ?_|refine zG (zN ?_)|refine zG (zD 0 rfl rfl rfl rfl ?_)))
  refine VO.go (VO.callAt 6 rfl (fun Fr w hF hs hS => tellMaster_spec Fr w (hS.blk 0 rfl) (by rw [List.length_append, List.length_append, List.length_append]; omega)) rfl (ψ := fun v H => v = .tuple #[] ∧ H = outH b (S2 ++ R5.finishM ++ R5.finishR.greetM ++ R5.finishR.baseM ++ R5.finishR.masterM)) (fun v L h => ⟨_, h.2, h.1, rfl⟩) ?_)
  rintro _ _ ⟨rfl, rfl⟩
  (repeat (first|refine zS ?_|refine zR ?_|refine zB ?_|refine zL ?_|refine zC ?_|refine zG (zN ?_)|refine zG (zD 0 rfl rfl rfl rfl ?_)))
  refine Ret.void rfl (repO_shut (R := R5.finishR) (x := y2)).ent ⟨rfl, ?_⟩
  simp only [enterR, hR5, ← hS2, List.append_assoc]
end
end Go.Proofs.YtbbnmgakmcppdaaGreat.Rep
namespace Go.Proofs.YtbbnmgakmcppdaaGreat.Rep
open Go Go.Proofs.YtbbnmgakmcppdaaGreat.Vg Go.Proofs.YtbbnmgakmcppdaaGreat.T Go.Proofs.YtbbnmgakmcppdaaGreat.Api Go.Proofs.YtbbnmgakmcppdaaGreat.Kv Go.Proofs.YtbbnmgakmcppdaaGreat.Ch Go.Proofs.YtbbnmgakmcppdaaGreat.Lg Go.Proofs.YtbbnmgakmcppdaaGreat.Rd Go.Proofs.YtbbnmgakmcppdaaGreat.Win Go.Proofs.YtbbnmgakmcppdaaGreat.Adm Go.Proofs.YtbbnmgakmcppdaaGreat.Sched Go.Proofs.YtbbnmgakmcppdaaGreat.Conf
set_option linter.unusedSimpArgs false
set_option linter.unusedVariables false
attribute [local irreducible] VO VC VA

def firstMs (n : Nat) : List MemM := (List.range n).map fun (i : Nat) => ((i : Int), (1 : Int))
theorem firstMs_len (n : Nat) : (firstMs n).length = n := by simp [firstMs]
theorem firstMs_succ (n : Nat) : firstMs (n + 1) = firstMs n ++ [((n : Int), (1 : Int))] := by simp [firstMs, List.range_succ]
def firstC (c : ConfM) : ChM := ⟨1, firstMs c.chain.toNat, -1⟩
def chZ : ChM := ⟨0, [], 0⟩
theorem conf_bounds {c : ConfM} (h : c = fitM c) : (1 ≤ c.nodes ∧ c.nodes ≤ 6) ∧ (1 ≤ c.chain ∧ c.chain ≤ c.nodes) ∧ (1 ≤ c.window ∧ c.window ≤ 16) ∧ (1 ≤ c.reads ∧ c.reads ≤ 16) ∧ (1 ≤ c.clients ∧ c.clients ≤ 6) := by
  have e1 : c.nodes = near c.nodes 1 6 := congrArg ConfM.nodes h
  have e2 : c.chain = near c.chain 1 (near c.nodes 1 6) := congrArg ConfM.chain h
  have e3 : c.window = near c.window 1 16 := congrArg ConfM.window h
  have e4 : c.reads = near c.reads 1 16 := congrArg ConfM.reads h
  have e5 : c.clients = near c.clients 1 6 := congrArg ConfM.clients h
  have n1 := near_in (x := c.nodes) (lo := 1) (hi := 6) (by decide)
  have n2 := near_in (x := c.chain) (lo := 1) (hi := near c.nodes 1 6) n1.1
  have n3 := near_in (x := c.window) (lo := 1) (hi := 16) (by decide)
  have n4 := near_in (x := c.reads) (lo := 1) (hi := 16) (by decide)
  have n5 := near_in (x := c.clients) (lo := 1) (hi := 6) (by decide)
  omega
set_option maxRecDepth 100000 in
theorem first_spec (Fr : Nat → Prop) (w : World) (c : ConfM) (a : Option Addr) (cap : Nat) (hq : IntsIn Fr w a c.qs) (ha : AdOk a) (hcap : c.qs.length ≤ cap) : Tri Tryz.prog 49 [.agg (c.cells a cap).toArray] Fr w []
    (fun v L => if c = fitM c then ∃ a' c', v = .tuple #[.agg ((firstC c).cells a' c').toArray, .int .i64 0] ∧ L = [slH memT 2 a' (firstC c).ms.length c' (flat memC (firstC c).ms)] else v = .tuple #[.agg (chZ.cells none 0).toArray, .int .i64 2] ∧ L = []) := by
  refine Tri.of 27 Tryz.func49 rfl (by kernel_rfl) tabOk rfl rfl ?_
  refine VC.seq (VC.region (VO.go (VO.boxA (vs := c.cells a cap) rfl fun x => VO.go (VO.alloc rfl fun d => ?_))))
  (repeat (first|refine zS ?_|refine zR ?_|refine zB ?_|refine zL ?_|refine zC ?_|refine zG (zN ?_)|refine zG (zD 0 rfl rfl rfl rfl ?_)|refine zG (zD 1 rfl rfl rfl rfl ?_)))
  refine VO.go (VO.ldA 1 (c.cells a cap) rfl rfl rfl rfl ?_)
  refine VO.go (VO.callV' (fun Fr w hF hs _ => Conf.check_spec Fr w c a cap (ints_of hq hF hs) ha hcap) rfl ?_)
  (repeat (first|refine zS ?_|refine zR ?_|refine zB ?_|refine zL ?_|refine zC ?_|refine zG (zN ?_)|refine zG (zD 0 rfl rfl rfl rfl ?_)))
  refine VC.condNE rfl (fun h1 => ?_) (fun h1 => VC.skip ?_)
  · have hc : ¬ c = fitM c := fun e => h1 (by rw [checkM, if_pos e])
    have hc2 : checkM c = 2 := by rw [checkM, if_neg hc]
    (repeat (first|refine zS ?_|refine zR ?_|refine zB ?_|refine zL ?_|refine zC ?_|refine zG (zN ?_)|refine zG (zD 0 rfl rfl rfl rfl ?_)))
    refine VO.go (VO.light (light_build (pv := []) (chZ.cells none 0) rfl rfl rfl (by kernel_rfl) rfl) ?_)
    (repeat (first|refine zS ?_|refine zR ?_|refine zB ?_|refine zL ?_|refine zC ?_|refine zG (zN ?_)|refine zG (zD 0 rfl rfl rfl rfl ?_)))
    refine VO.go (VO.stA (vs := chZ.cells none 0) (cs' := chZ.cells none 0) 0 rfl rfl rfl rfl (Nat.le_refl _) rfl rfl rfl ?_)
    (repeat (first|refine zS ?_|refine zR ?_|refine zB ?_|refine zL ?_|refine zC ?_|refine zG (zN ?_)|refine zG (zD 0 rfl rfl rfl rfl ?_)))
    refine VC.ret (Ret.cellTmp 2 3 rfl rfl rfl (RdL.many 0 rfl rfl) rfl Imp.nil.ent ?_)
    rw [if_neg hc, hc2]; exact ⟨rfl, rfl⟩
  have hc : c = fitM c := by
    apply Decidable.byContradiction
    intro hc
    rw [checkM, if_neg hc] at h1
    cases h1
  have hb := conf_bounds hc
  (repeat (first|refine zS ?_|refine zR ?_|refine zB ?_|refine zL ?_|refine zC ?_|refine zG (zN ?_)|refine zG (zD 0 rfl rfl rfl rfl ?_)))
  refine VO.go (VO.light (light_build (pv := [(0, .int .i64 1), (2, .int .i64 (-1))]) [.int .i64 1, .slice none 0 0, .int .i64 (-1)] rfl rfl rfl (by kernel_rfl) rfl) ?_)
  (repeat (first|refine zS ?_|refine zR ?_|refine zB ?_|refine zL ?_|refine zC ?_|refine zG (zN ?_)|refine zG (zD 0 rfl rfl rfl rfl ?_)))
  refine VO.go (VO.stA (vs := [.int .i64 1, .slice none 0 0, .int .i64 (-1)]) (cs' := [.int .i64 1, .slice none 0 0, .int .i64 (-1)]) 0 rfl rfl rfl rfl (Nat.le_refl _) rfl rfl rfl ?_)
  (repeat (first|refine zS ?_|refine zR ?_|refine zB ?_|refine zL ?_|refine zC ?_|refine zG (zN ?_)|refine zG (zD 0 rfl rfl rfl rfl ?_)|refine zG (zD 1 rfl rfl rfl rfl ?_)))
  refine VC.loop (σ := Nat × Option Addr × Nat) (fun y => [(2, .pointer (some ⟨d, 0, none⟩)), (14, .int .i64 c.chain), (15, .int .i64 y.1)])
    (fun y => [slH memT 2 y.2.1 y.1 y.2.2 (flat memC (firstMs y.1)), pt d [.int .i64 1, .slice y.2.1 y.1 y.2.2, .int .i64 (-1)] chT])
    (fun y => (y.1 : Int) ≤ c.chain) (fun y => c.chain.toNat - y.1) (0, none, 0)
    (by dsimp only; omega) (Sub.cons rfl (Sub.cons rfl (Sub.cons rfl (Sub.nil _)))) (Imp.slNil (Imp.pick 0 rfl Imp.nil)).ent ?_
  rintro ⟨i, a', c'⟩ hi
  dsimp only at hi ⊢
  (repeat (first|refine zS ?_|refine zR ?_|refine zB ?_|refine zL ?_|refine zC ?_|refine zG (zN ?_)|refine zG (zD 0 rfl rfl rfl rfl ?_)))
  refine VC.condP rfl (fun h1 => VC.skip ?_) (fun h1 => VC.exit ?_)
  · (repeat (first|refine zS ?_|refine zR ?_|refine zB ?_|refine zL ?_|refine zC ?_|refine zG (zN ?_)|refine zG (zD 0 rfl rfl rfl rfl ?_)|refine zG (zD 1 rfl rfl rfl rfl ?_)))
    refine VO.go (VO.light (light_build (pv := [(0, .int .i64 i), (1, .int .i64 1)]) (memC ((i : Int), 1)) rfl rfl rfl (by kernel_rfl) rfl) ?_)
    refine VO.go (VO.buildSlice (n := 1) (pv := [(0, .agg (memC ((i : Int), 1)).toArray)]) (memC ((i : Int), 1)) rfl rfl rfl rfl (by decide) (fill_one rfl rfl rfl) fun nb => ?_)
    refine VO.go (VO.append (m := 1) (news := memC ((i : Int), 1)) 1 rfl rfl rfl rfl rfl rfl rfl (RdRow.pt 0 rfl rfl rfl) rfl (small_bytes (k := 101) (by omega) (by decide)) (by omega) fun a2 c2 hc2 => ?_)
    (repeat (first|refine zS ?_|refine zR ?_|refine zB ?_|refine zL ?_|refine zC ?_|refine zG (zN ?_)|refine zG (zD 0 rfl rfl rfl rfl ?_)))
    refine VO.go (VO.st 2 (cs' := [.int .i64 1, .slice a2 (i + 1) c2, .int .i64 (-1)]) rfl rfl rfl rfl (by show 1 < 3; omega) rfl rfl ?_)
    (repeat (first|refine zS ?_|refine zR ?_|refine zB ?_|refine zL ?_|refine zC ?_|refine zG (zN ?_)|refine zG (zD 0 rfl rfl rfl rfl ?_)))
    refine VO.go (VO.add rfl rfl (by omega) (by omega) ?_)
    (repeat (first|refine zS ?_|refine zR ?_|refine zB ?_|refine zL ?_|refine zC ?_|refine zG (zN ?_)|refine zG (zD 0 rfl rfl rfl rfl ?_)))
    refine ⟨(i + 1, a2, c2), by dsimp only; omega, by dsimp only; omega, Sub.cons rfl (Sub.cons rfl (Sub.cons rfl (Sub.nil _))), ?_⟩
    dsimp only
    rw [firstMs_succ, flat_append, flat_cons, flat_nil, List.append_nil]
    exact (Imp.pick 0 rfl (Imp.pick 1 rfl Imp.nil)).ent
  · obtain rfl : i = c.chain.toNat := by omega
    have e0 : (firstC c).ms.length = c.chain.toNat := firstMs_len _
    have e1 : (firstC c).cells a' c' = [.int .i64 1, .slice a' c.chain.toNat c', .int .i64 (-1)] := by rw [ChM.cells, e0]; rfl
    (repeat (first|refine zS ?_|refine zR ?_|refine zB ?_|refine zL ?_|refine zC ?_|refine zG (zN ?_)|refine zG (zD 0 rfl rfl rfl rfl ?_)))
    refine VO.go (VO.ldA 1 [.int .i64 1, .slice a' c.chain.toNat c', .int .i64 (-1)] rfl rfl rfl rfl ?_)
    refine VO.go (VO.stA (vs := [.int .i64 1, .slice a' c.chain.toNat c', .int .i64 (-1)]) (cs' := [.int .i64 1, .slice a' c.chain.toNat c', .int .i64 (-1)]) 1 rfl rfl rfl rfl (Nat.le_refl _) rfl rfl rfl ?_)
    (repeat (first|refine zS ?_|refine zR ?_|refine zB ?_|refine zL ?_|refine zC ?_|refine zG (zN ?_)|refine zG (zD 0 rfl rfl rfl rfl ?_)))
    refine VC.ret (Ret.cellTmp 2 3 rfl rfl rfl (RdL.many 1 rfl rfl) rfl (Imp.pick 0 rfl Imp.nil).ent ?_)
    rw [if_pos hc, e0]; exact ⟨a', c', by rw [e1]; rfl, rfl⟩

/-! ### A node that is new -/
def newR0 (c : ConfM) (id : Int) : RepM := { id := id, clients := c.clients, cap := c.window, most := c.reads, ch := chZ, since := 0, whole := false, log := [], win := WinM.new c.window, adm := newA c, rds := RdsM.new c.reads, start := -1, base := -1, linked := false, have_ := 0 }
def newR (c : ConfM) (id : Int) (blank : Bool) : RepM :=
  if blank then newR0 c id else if (sinceOf (firstC c) id).2 then { newR0 c id with ch := firstC c, since := (sinceOf (firstC c) id).1, whole := true, start := 0 } else { newR0 c id with ch := firstC c }
def newOkB (c : ConfM) (id : Int) : Prop := c = fitM c ∧ 0 ≤ id ∧ id < c.nodes
instance (c : ConfM) (id : Int) : Decidable (newOkB c id) := by unfold newOkB; infer_instance
theorem newR0_ok {c : ConfM} (h : c = fitM c) (id : Int) {C : ChM} (hC : ChS C) (s t : Int) (wh : Bool) : ({ newR0 c id with ch := C, since := s, whole := wh, start := t } : RepM).Ok := by
  have hb := conf_bounds h
  refine ⟨hC, WinM.new_ok hb.2.2.1.1 hb.2.2.1.2, rfl, fun e he => absurd he List.not_mem_nil, fun e he => absurd he List.not_mem_nil, hb.2.2.2.1.1, hb.2.2.2.1.2, ?_, Int.le_refl _, (by decide : (0 : Int) ≤ 100000000), fun e he => absurd he List.not_mem_nil, newA_calls c, newA_wf h⟩
  show (0 : Int) ≤ c.reads; omega
theorem firstC_s {c : ConfM} (h : c = fitM c) : ChS (firstC c) := ⟨by have hb := conf_bounds h; show (firstMs _).length ≤ 1000; rw [firstMs_len]; omega⟩
theorem newR_ok {c : ConfM} (h : c = fitM c) (id : Int) (blank : Bool) : (newR c id blank).Ok := by
  unfold newR
  split
  · exact newR0_ok h id ⟨by decide⟩ 0 (-1) false
  split
  · exact newR0_ok h id (firstC_s h) _ 0 true
  · exact newR0_ok h id (firstC_s h) 0 (-1) false
def repV (R : RepM) (a : Option Addr) (c : Nat) (l w d r : Value) : List Value := [.int .i64 R.id, .int .i64 R.clients, .int .i64 R.cap, .int .i64 R.most, .int .i64 R.ch.epoch, .slice a R.ch.ms.length c, .int .i64 R.ch.drain, .int .i64 R.since, .bool R.whole,
  l, w, d, r, .int .i64 R.start, .int .i64 R.base, .bool R.linked, .int .i64 R.have_]
abbrev ptV (b : Nat) : Value := .pointer (some ⟨b, 0, none⟩)
set_option maxRecDepth 100000 in
set_option maxHeartbeats 4000000 in
theorem new_spec (Fr : Nat → Prop) (w : World) (c : ConfM) (a : Option Addr) (cap : Nat) (hq : IntsIn Fr w a c.qs) (ha : AdOk a) (hcap : c.qs.length ≤ cap) (id : Int) (blank : Bool) : Tri Tryz.prog 14 [.agg (c.cells a cap).toArray, .int .i64 id, .bool blank] Fr w []
    (fun v L => if newOkB c id then ∃ p, v = .tuple #[.pointer (some ⟨p, 0, none⟩), .int .i64 0] ∧ L = [repH p (newR c id blank)] else v = .tuple #[.pointer none, .int .i64 2] ∧ L = []) := by
  refine Tri.of 93 Tryz.func14 rfl (by kernel_rfl) tabOk rfl rfl ?_
  refine VC.seq (VC.region (VO.go (VO.boxA (vs := c.cells a cap) rfl fun x => ?_)))
  (repeat (first|refine zS ?_|refine zR ?_|refine zB ?_|refine zL ?_|refine zC ?_|refine zG (zN ?_)|refine zG (zD 0 rfl rfl rfl rfl ?_)))
  refine VO.go (VO.ldA 0 (c.cells a cap) rfl rfl rfl rfl ?_)
  refine VO.go (VO.call (Lc := []) (fun Fr w hF hs _ => first_spec Fr w c a cap (ints_of hq hF hs) ha hcap) rfl rfl ?_)
  intro v L hv
  by_cases hc : c = fitM c
  rotate_left
  · rw [if_neg hc] at hv
    obtain ⟨rfl, rfl⟩ := hv
    have hno : ¬ newOkB c id := fun h => hc h.1
    (repeat (first|refine zS ?_|refine zR ?_|refine zB ?_|refine zL ?_|refine zC ?_|refine zG (zN ?_)|refine zG (zD 0 rfl rfl rfl rfl ?_)))
    refine VO.go (VO.alloc rfl fun d => ?_)
    refine VO.go (VO.stA (vs := chZ.cells none 0) (cs' := chZ.cells none 0) 0 rfl rfl rfl rfl (Nat.le_refl _) rfl rfl rfl ?_)
    (repeat (first|refine zS ?_|refine zR ?_|refine zB ?_|refine zL ?_|refine zC ?_|refine zG (zN ?_)|refine zG (zD 0 rfl rfl rfl rfl ?_)))
    refine VO.go (VO.yes 20 true rfl rfl ?_)
    (repeat (first|refine zS ?_|refine zR ?_|refine zB ?_|refine zL ?_|refine zC ?_|refine zG (zN ?_)|refine zG (zD 0 rfl rfl rfl rfl ?_)|refine zG (zU rfl rfl rfl ?_)))
    refine VO.go (VO.yes 24 true rfl rfl ?_)
    (repeat (first|refine zS ?_|refine zR ?_|refine zB ?_|refine zL ?_|refine zC ?_|refine zG (zN ?_)|refine zG (zD 0 rfl rfl rfl rfl ?_)|refine zG (zU rfl rfl rfl ?_)))
    refine VC.condT rfl ?_
    (repeat (first|refine zS ?_|refine zR ?_|refine zB ?_|refine zL ?_|refine zC ?_|refine zG (zN ?_)|refine zG (zD 0 rfl rfl rfl rfl ?_)))
    refine VC.ret (Ret.tmp2 6 7 rfl rfl rfl Imp.nil.ent ?_)
    rw [if_neg hno]; exact ⟨rfl, rfl⟩
  rw [if_pos hc] at hv
  obtain ⟨a1, c1, rfl, rfl⟩ := hv
  have hb := conf_bounds hc
  have hfl : (firstC c).ms.length ≤ 6 := by show (firstMs _).length ≤ 6; rw [firstMs_len]; omega
  (repeat (first|refine zS ?_|refine zR ?_|refine zB ?_|refine zL ?_|refine zC ?_|refine zG (zN ?_)|refine zG (zD 0 rfl rfl rfl rfl ?_)))
  refine VO.go (VO.alloc rfl fun d => ?_)
  refine VO.go (VO.stA (vs := (firstC c).cells a1 c1) (cs' := (firstC c).cells a1 c1) 0 rfl rfl rfl rfl (Nat.le_refl _) rfl rfl rfl ?_)
  (repeat (first|refine zS ?_|refine zR ?_|refine zB ?_|refine zL ?_|refine zC ?_|refine zG (zN ?_)|refine zG (zD 0 rfl rfl rfl rfl ?_)))
  refine VO.go (VO.yes 20 false rfl rfl ?_)
  (repeat (first|refine zS ?_|refine zR ?_|refine zB ?_|refine zL ?_|refine zC ?_|refine zG (zN ?_)|refine zG (zD 0 rfl rfl rfl rfl ?_)|refine zG (zU rfl rfl rfl ?_)))
  by_cases h0 : id < 0
  · have hno : ¬ newOkB c id := fun h => by have := h.2.1; omega
    refine VO.go (VO.yes 24 true rfl (decide_eq_true h0) ?_)
    (repeat (first|refine zS ?_|refine zR ?_|refine zB ?_|refine zL ?_|refine zC ?_|refine zG (zN ?_)|refine zG (zD 0 rfl rfl rfl rfl ?_)|refine zG (zU rfl rfl rfl ?_)))
    refine VC.condT rfl ?_
    (repeat (first|refine zS ?_|refine zR ?_|refine zB ?_|refine zL ?_|refine zC ?_|refine zG (zN ?_)|refine zG (zD 0 rfl rfl rfl rfl ?_)))
    refine VC.ret (Ret.tmp2 6 7 rfl rfl rfl Imp.nil.ent ?_)
    rw [if_neg hno]; exact ⟨rfl, rfl⟩
  refine VO.go (VO.yes 24 false rfl (decide_eq_false h0) ?_)
  (repeat (first|refine zS ?_|refine zR ?_|refine zB ?_|refine zL ?_|refine zC ?_|refine zG (zN ?_)|refine zG (zD 0 rfl rfl rfl rfl ?_)|refine zG (zD 1 rfl rfl rfl rfl ?_)|refine zG (zD 2 rfl rfl rfl rfl ?_)|refine zG (zU rfl rfl rfl ?_)))
  refine VC.condP rfl (fun h1 => ?_) (fun h1 => VC.skip ?_)
  · have hno : ¬ newOkB c id := fun h => by have := h.2.2; omega
    (repeat (first|refine zS ?_|refine zR ?_|refine zB ?_|refine zL ?_|refine zC ?_|refine zG (zN ?_)|refine zG (zD 0 rfl rfl rfl rfl ?_)))
    refine VC.ret (Ret.tmp2 6 7 rfl rfl rfl Imp.nil.ent ?_)
    rw [if_neg hno]; exact ⟨rfl, rfl⟩
  have hyes : newOkB c id := ⟨hc, by omega, by omega⟩
  show VC _ _ _ [pt d ((firstC c).cells a1 c1) chT, slH memT 2 a1 (firstC c).ms.length c1 (flat memC (firstC c).ms), pt x (c.cells a cap) _] _
  (repeat (first|refine zS ?_|refine zR ?_|refine zB ?_|refine zL ?_|refine zC ?_|refine zG (zN ?_)|refine zG (zD 0 rfl rfl rfl rfl ?_)|refine zG (zD 1 rfl rfl rfl rfl ?_)|refine zG (zD 2 rfl rfl rfl rfl ?_)))
  refine VO.go (VO.light (light_build (pv := [(0, .int .i64 id), (1, .int .i64 c.clients), (2, .int .i64 c.window), (3, .int .i64 c.reads), (11, .int .i64 (-1)), (12, .int .i64 (-1))]) (repV (newR0 c id) none 0 (.pointer none) (.pointer none) (.pointer none) (.pointer none)) rfl rfl rfl (by kernel_rfl) rfl) ?_)
  refine VO.go (VO.boxA (vs := repV (newR0 c id) none 0 (.pointer none) (.pointer none) (.pointer none) (.pointer none)) rfl fun p => ?_)
  (repeat (first|refine zS ?_|refine zR ?_|refine zB ?_|refine zL ?_|refine zC ?_|refine zG (zN ?_)|refine zG (zD 0 rfl rfl rfl rfl ?_)))
  refine VO.go (VO.call (Lc := []) (fun Fr w _ _ _ => Lg.new_spec Fr w) rfl rfl ?_)
  rintro _ _ ⟨lp, rfl, rfl⟩
  (repeat (first|refine zS ?_|refine zR ?_|refine zB ?_|refine zL ?_|refine zC ?_|refine zG (zN ?_)|refine zG (zD 0 rfl rfl rfl rfl ?_)))
  refine VO.go (VO.st 1 (cs' := repV (newR0 c id) none 0 (ptV lp) (.pointer none) (.pointer none) (.pointer none)) rfl rfl rfl rfl (by show 9 < 17; omega) rfl rfl ?_)
  (repeat (first|refine zS ?_|refine zR ?_|refine zB ?_|refine zL ?_|refine zC ?_|refine zG (zN ?_)|refine zG (zD 0 rfl rfl rfl rfl ?_)|refine zG (zD 1 rfl rfl rfl rfl ?_)|refine zG (zD 2 rfl rfl rfl rfl ?_)|refine zG (zD 3 rfl rfl rfl rfl ?_)|refine zG (zD 4 rfl rfl rfl rfl ?_)))
  refine VO.go (VO.call (Lc := []) (fun Fr w _ _ _ => Win.new_spec Fr w hb.2.2.1.1 hb.2.2.1.2) rfl rfl ?_)
  rintro _ _ ⟨wp, rfl, rfl⟩
  (repeat (first|refine zS ?_|refine zR ?_|refine zB ?_|refine zL ?_|refine zC ?_|refine zG (zN ?_)|refine zG (zD 0 rfl rfl rfl rfl ?_)))
  refine VO.go (VO.st 2 (cs' := repV (newR0 c id) none 0 (ptV lp) (ptV wp) (.pointer none) (.pointer none)) rfl rfl rfl rfl (by show 10 < 17; omega) rfl rfl ?_)
  (repeat (first|refine zS ?_|refine zR ?_|refine zB ?_|refine zL ?_|refine zC ?_|refine zG (zN ?_)|refine zG (zD 0 rfl rfl rfl rfl ?_)))
  refine VO.go (VO.ldA 5 (c.cells a cap) rfl rfl rfl rfl ?_)
  refine VO.go (VO.call (Lc := []) (fun Fr w hF hs _ => Adm.new_spec Fr w c a cap (ints_of hq hF hs) ha hcap) rfl rfl ?_)
  intro v L hv
  rw [if_pos hc] at hv
  obtain ⟨ap, rfl, rfl⟩ := hv
  (repeat (first|refine zS ?_|refine zR ?_|refine zB ?_|refine zL ?_|refine zC ?_|refine zG (zN ?_)|refine zG (zD 0 rfl rfl rfl rfl ?_)))
  refine VO.go (VO.st 3 (cs' := repV (newR0 c id) none 0 (ptV lp) (ptV wp) (ptV ap) (.pointer none)) rfl rfl rfl rfl (by show 11 < 17; omega) rfl rfl ?_)
  (repeat (first|refine zS ?_|refine zR ?_|refine zB ?_|refine zL ?_|refine zC ?_|refine zG (zN ?_)|refine zG (zD 0 rfl rfl rfl rfl ?_)|refine zG (zD 1 rfl rfl rfl rfl ?_)|refine zG (zD 2 rfl rfl rfl rfl ?_)|refine zG (zD 3 rfl rfl rfl rfl ?_)|refine zG (zD 4 rfl rfl rfl rfl ?_)|refine zG (zD 5 rfl rfl rfl rfl ?_)|refine zG (zD 6 rfl rfl rfl rfl ?_)))
  refine VO.go (VO.call (Lc := []) (fun Fr w _ _ _ => Rd.new_spec Fr w hb.2.2.2.1.1 hb.2.2.2.1.2) rfl rfl ?_)
  rintro _ _ ⟨rp, rfl, rfl⟩
  (repeat (first|refine zS ?_|refine zR ?_|refine zB ?_|refine zL ?_|refine zC ?_|refine zG (zN ?_)|refine zG (zD 0 rfl rfl rfl rfl ?_)))
  refine VO.go (VO.st 4 (cs' := repCs (newR0 c id) ⟨none, 0, lp, wp, ap, rp⟩) rfl rfl rfl rfl (by show 12 < 17; omega) rfl rfl ?_)
  (repeat (first|refine zS ?_|refine zR ?_|refine zB ?_|refine zL ?_|refine zC ?_|refine zG (zN ?_)|refine zG (zD 0 rfl rfl rfl rfl ?_)))
  refine VC.ent (L' := [pt p (repCs (newR0 c id) ⟨none, 0, lp, wp, ap, rp⟩) repT, logH lp [], winH wp (WinM.new c.window), admH ap (newA c), rdsH rp (RdsM.new c.reads), pt d ((firstC c).cells a1 c1) chT, slH memT 2 a1 (firstC c).ms.length c1 (flat memC (firstC c).ms)]) (Imp.pick 4 rfl (Imp.pick 3 rfl (Imp.pick 2 rfl (Imp.pick 1 rfl (Imp.pick 0 rfl (Imp.pick 0 rfl (Imp.pick 0 rfl Imp.nil))))))).ent ?_
  refine VC.cond rfl (fun hbl => ?_) (fun hbl => VC.skip ?_)
  · (repeat (first|refine zS ?_|refine zR ?_|refine zB ?_|refine zL ?_|refine zC ?_|refine zG (zN ?_)|refine zG (zD 0 rfl rfl rfl rfl ?_)))
    refine VC.ret (Ret.tmp2 6 7 rfl rfl rfl (L' := [repH p (newR c id blank)]) ?_ (by rw [if_pos hyes]; exact ⟨p, rfl, rfl⟩))
    rw [show newR c id blank = newR0 c id by rw [newR, if_pos hbl]]
    exact (Imp.rep (R := newR0 c id) ⟨none, 0, lp, wp, ap, rp⟩ (Imp.pick 0 rfl (Imp.slNil (Imp.pick 0 rfl (Imp.pick 0 rfl (Imp.pick 0 rfl (Imp.pick 0 rfl Imp.nil))))))).ent
  (repeat (first|refine zS ?_|refine zR ?_|refine zB ?_|refine zL ?_|refine zC ?_|refine zG (zN ?_)|refine zG (zD 0 rfl rfl rfl rfl ?_)))
  refine VO.go (VO.ldA 5 ((firstC c).cells a1 c1) rfl rfl rfl rfl ?_)
  (repeat (first|refine zS ?_|refine zR ?_|refine zB ?_|refine zL ?_|refine zC ?_|refine zG (zN ?_)|refine zG (zD 0 rfl rfl rfl rfl ?_)))
  refine VO.go (VO.stA (vs := (firstC c).cells a1 c1) (cs' := repCs { newR0 c id with ch := firstC c } ⟨a1, c1, lp, wp, ap, rp⟩) 0 rfl rfl rfl rfl (by show 4 + 3 ≤ 17; omega) rfl rfl rfl ?_)
  (repeat (first|refine zS ?_|refine zR ?_|refine zB ?_|refine zL ?_|refine zC ?_|refine zG (zN ?_)|refine zG (zD 0 rfl rfl rfl rfl ?_)))
  refine VO.go (VO.ldA 5 ((firstC c).cells a1 c1) rfl rfl rfl rfl ?_)
  (repeat (first|refine zS ?_|refine zR ?_|refine zB ?_|refine zL ?_|refine zC ?_|refine zG (zN ?_)|refine zG (zD 0 rfl rfl rfl rfl ?_)))
  refine VO.go (VO.callV' (fun Fr w hF hs hS => Ch.since_spec Fr w (RwIn.slH memC_len (hS.at_ 6 rfl)) (by omega) id) rfl ?_)
  (repeat (first|refine zS ?_|refine zR ?_|refine zB ?_|refine zL ?_|refine zC ?_|refine zG (zN ?_)|refine zG (zD 0 rfl rfl rfl rfl ?_)))
  refine VC.meetS (σ := Unit) (fun _ => [(10, ptV p)]) (fun _ => [repH p (newR c id blank)]) (fun _ => True) ?_ ?_
  · refine VC.cond rfl (fun hs => ?_) (fun hs => VC.skip ?_)
    · (repeat (first|refine zS ?_|refine zR ?_|refine zB ?_|refine zL ?_|refine zC ?_|refine zG (zN ?_)|refine zG (zD 0 rfl rfl rfl rfl ?_)))
      refine VO.go (VO.st 0 (cs' := repCs { newR0 c id with ch := firstC c, since := (sinceOf (firstC c) id).1 } ⟨a1, c1, lp, wp, ap, rp⟩) rfl rfl rfl rfl (by show 7 < 17; omega) rfl rfl ?_)
      (repeat (first|refine zS ?_|refine zR ?_|refine zB ?_|refine zL ?_|refine zC ?_|refine zG (zN ?_)|refine zG (zD 0 rfl rfl rfl rfl ?_)))
      refine VO.go (VO.st 0 (cs' := repCs { newR0 c id with ch := firstC c, since := (sinceOf (firstC c) id).1, whole := true } ⟨a1, c1, lp, wp, ap, rp⟩) rfl rfl rfl rfl (by show 8 < 17; omega) rfl rfl ?_)
      (repeat (first|refine zS ?_|refine zR ?_|refine zB ?_|refine zL ?_|refine zC ?_|refine zG (zN ?_)|refine zG (zD 0 rfl rfl rfl rfl ?_)))
      refine VO.go (VO.st 0 (cs' := repCs { newR0 c id with ch := firstC c, since := (sinceOf (firstC c) id).1, whole := true, start := 0 } ⟨a1, c1, lp, wp, ap, rp⟩) rfl rfl rfl rfl (by show 13 < 17; omega) rfl rfl ?_)
      (repeat (first|refine zS ?_|refine zR ?_|refine zB ?_|refine zL ?_|refine zC ?_|refine zG (zN ?_)|refine zG (zD 0 rfl rfl rfl rfl ?_)))
      refine ⟨(), trivial, Sub.cons rfl (Sub.nil _), ?_⟩
      dsimp only
      rw [show newR c id blank = { newR0 c id with ch := firstC c, since := (sinceOf (firstC c) id).1, whole := true, start := 0 } by rw [newR, if_neg (by rw [hbl]; simp), if_pos hs]]
      exact (Imp.rep (R := { newR0 c id with ch := firstC c, since := (sinceOf (firstC c) id).1, whole := true, start := 0 }) ⟨a1, c1, lp, wp, ap, rp⟩ (Imp.pick 0 rfl (Imp.pick 5 rfl (Imp.pick 0 rfl (Imp.pick 0 rfl (Imp.pick 0 rfl (Imp.pick 0 rfl Imp.nil))))))).ent
    · refine ⟨(), trivial, Sub.cons rfl (Sub.nil _), ?_⟩
      dsimp only
      rw [show newR c id blank = { newR0 c id with ch := firstC c } by rw [newR, if_neg (by rw [hbl]; simp), if_neg (by rw [hs]; simp)]]
      exact (Imp.rep (R := { newR0 c id with ch := firstC c }) ⟨a1, c1, lp, wp, ap, rp⟩ (Imp.pick 0 rfl (Imp.pick 5 rfl (Imp.pick 0 rfl (Imp.pick 0 rfl (Imp.pick 0 rfl (Imp.pick 0 rfl Imp.nil))))))).ent
  rintro _ -
  (repeat (first|refine zS ?_|refine zR ?_|refine zB ?_|refine zL ?_|refine zC ?_|refine zG (zN ?_)|refine zG (zD 0 rfl rfl rfl rfl ?_)))
  exact VC.ret (Ret.tmp2 6 7 rfl rfl rfl Ent.refl (by rw [if_pos hyes]; exact ⟨p, rfl, rfl⟩))
end Go.Proofs.YtbbnmgakmcppdaaGreat.Rep
namespace Go.Proofs.YtbbnmgakmcppdaaGreat.Rep
open Go Go.Proofs.YtbbnmgakmcppdaaGreat.Vg Go.Proofs.YtbbnmgakmcppdaaGreat.T Go.Proofs.YtbbnmgakmcppdaaGreat.Api Go.Proofs.YtbbnmgakmcppdaaGreat.Kv Go.Proofs.YtbbnmgakmcppdaaGreat.Ch Go.Proofs.YtbbnmgakmcppdaaGreat.Lg Go.Proofs.YtbbnmgakmcppdaaGreat.Rd Go.Proofs.YtbbnmgakmcppdaaGreat.Win Go.Proofs.YtbbnmgakmcppdaaGreat.Adm Go.Proofs.YtbbnmgakmcppdaaGreat.Sched Go.Proofs.YtbbnmgakmcppdaaGreat.Conf
set_option linter.unusedSimpArgs false
set_option linter.unusedVariables false
attribute [local irreducible] VO VC VA

/-- What holds of each node. -/
structure RepM.Fit (R : RepM) : Prop where
  ok : R.Ok
  most : R.most = R.rds.cap
  cap0 : 1 ≤ R.cap
  cap1 : R.cap ≤ 16
  cl : R.clients ≤ 6
theorem newR_fit {c : ConfM} (h : c = fitM c) (id : Int) (blank : Bool) : (newR c id blank).Fit := by
  have hb := conf_bounds h
  have ho := newR_ok h id blank
  unfold newR at ho ⊢
  split
  · rename_i h1; rw [if_pos h1] at ho; exact ⟨ho, rfl, hb.2.2.1.1, hb.2.2.1.2, hb.2.2.2.2.2⟩
  · rename_i h1; rw [if_neg h1] at ho
    split
    · rename_i h2; rw [if_pos h2] at ho; exact ⟨ho, rfl, hb.2.2.1.1, hb.2.2.1.2, hb.2.2.2.2.2⟩
    · rename_i h2; rw [if_neg h2] at ho; exact ⟨ho, rfl, hb.2.2.1.1, hb.2.2.1.2, hb.2.2.2.2.2⟩
def readsB (o : OpM) : Bool := decide (o.kind = 1) && decide (opCheck o = 0)
def frCh (f : FrameM) (ms : List MemM) : ChM := ⟨f.cepoch, ms, f.drain⟩
def sureR (R : RepM) (i : Int) : RepM := { R with rds := { R.rds with l := R.rds.l.filter (surely i) } }
def sureS (R : RepM) (i : Int) : List SndM := (R.rds.l.filter fun y => !surely i y).map fun y => (32 + y.f.client, replyF y.f.client y.f.seq y.f.try_ y.r)
def baseR (R : RepM) (i : Int) : RepM := { R with base := max i (-1) }
def takeR (R : RepM) (from_ : Int) (f : FrameM) (ms : List MemM) (now : Int) : RepM × List SndM :=
  if f.kind = 1 then (if f.client < 0 then (R, []) else if R.clients ≤ f.client then (R, []) else if readsB f.op = true then readR R f now else updateR R f now)
  else if f.kind = 8 then (if (from_ = 16 ∧ chE (frCh f ms) = 0) ∧ R.ch.epoch < f.cepoch then enterR R (frCh f ms) else (R, []))
  else if f.kind = 4 then (if R.knownB f = true ∧ isNodeB from_ R.prevM = true then forwardR R f.entry else (R, []))
  else if f.kind = 5 then (if R.knownB f = true ∧ isNodeB from_ R.nextM = true then ackR R f else (R, []))
  else if f.kind = 6 then (if R.knownB f = true ∧ isNodeB from_ R.prevM = true then ((baseR R f.index).becomeR, (baseR R f.index).becomeM) else (R, []))
  else if f.kind = 10 then (if R.knownB f = true ∧ from_ = 16 then (sureR R f.index, sureS R f.index) else (R, []))
  else (R, [])
theorem judge_adm (R : RepM) (f : FrameM) (now : Int) : (judgeM R f now).2.2 = R.adm ∨ (judgeM R f now).2.2 = (R.adm.offerM f now).2 := by
  unfold judgeM
  repeat' split
  all_goals first | exact .inl rfl | exact .inr rfl
theorem offer_wf' {A : AdmM} (h : A.Wf) (f : FrameM) (now : Int) : (A.offerM f now).2.Wf := offer_wf h f now
theorem updateR_ok {R : RepM} (h : R.Ok) (f : FrameM) (now : Int) : (updateR R f now).1.Ok := by
  have hj : (judgeM R f now).2.2.Calls ∧ (judgeM R f now).2.2.Wf := by
    rcases judge_adm R f now with e | e
    · rw [e]; exact ⟨h.calls, h.wf⟩
    · rw [e]; exact ⟨offer_calls h.calls f now, offer_wf h.wf f now⟩
  unfold updateR
  split
  · exact adm_ok h hj.1 hj.2
  split
  · exact adm_ok h hj.1 hj.2
  split
  · exact adm_ok h (barM_calls hj.1 _ _ _) (hj.2.barM _ _ _)
  · exact adm_ok h hj.1 hj.2
theorem readR_ok {R : RepM} (h : R.Ok) (hr : R.rds.last < 100000000) (f : FrameM) (now : Int) (h0 : 0 ≤ f.client) (h1 : f.client ≤ 1000) : (readR R f now).1.Ok := by
  unfold readR
  split
  · exact h
  · have e : ({ R with rds := R.rds.put f (kvLook (logRun R.log).1 f.op.key R.log.length) } : RepM).Ok := by
      have a0 := h.rc0; have a1 := h.rn0; have a2 := h.rl
      unfold RdsM.put
      split
      · rename_i hl
        exact ⟨h.ch, h.win, h.last, h.logc, h.logi, h.rc0, h.rc1, by show ((R.rds.l ++ [_]).length : Int) ≤ R.rds.cap; rw [List.length_append]; simp; omega, by show 0 ≤ R.rds.last + 1; omega, by show R.rds.last + 1 ≤ _; omega, fun y hy => by
          rcases List.mem_append.1 hy with h2 | h2
          · exact h.rcl y h2
          · rw [List.mem_singleton.1 h2]; exact ⟨h0, h1⟩, h.calls, h.wf⟩
      · exact h
    exact e
theorem sureR_ok {R : RepM} (h : R.Ok) (i : Int) : (sureR R i).Ok := ⟨h.ch, h.win, h.last, h.logc, h.logi, h.rc0, h.rc1, by
  have := h.rl; have h2 := List.length_filter_le (surely i) R.rds.l
  show ((R.rds.l.filter (surely i)).length : Int) ≤ R.rds.cap; omega, h.rn0, h.rn1, fun y hy => h.rcl y (List.mem_filter.1 hy).1, h.calls, h.wf⟩
theorem baseR_ok {R : RepM} (h : R.Ok) (i : Int) : (baseR R i).Ok := ⟨h.ch, h.win, h.last, h.logc, h.logi, h.rc0, h.rc1, h.rl, h.rn0, h.rn1, h.rcl, h.calls, h.wf⟩
theorem forwardR_ok' {R : RepM} (h : R.Ok) (e : EntryM) : (forwardR R e).1.Ok := by
  unfold forwardR
  split
  · rename_i h1; exact becomeR_ok (finishR_ok (pushE_ok h h1.2 (fwd_room h1.1)))
  · exact h
theorem chE_len {c : ChM} (h : chE c = 0) : c.ms.length ≤ 6 := by
  have : chOk c = true := by
    unfold chE at h
    by_cases hc : chOk c = true
    · exact hc
    · rw [if_neg hc] at h; cases h
  simp only [chOk, headOk, Bool.and_eq_true, decide_eq_true_eq] at this
  omega
theorem takeR_ok {R : RepM} (h : R.Fit) (hr : R.rds.last < 100000000) (from_ : Int) (f : FrameM) (ms : List MemM) (now : Int) : (takeR R from_ f ms now).1.Ok := by
  have hcl := h.cl
  unfold takeR
  split
  · split
    · exact h.ok
    split
    · exact h.ok
    rename_i h1 h2
    split
    · exact readR_ok h.ok hr f now (by omega) (by omega)
    · exact updateR_ok h.ok f now
  split
  · split
    · rename_i h1; exact enterR_ok h.ok ⟨by have := chE_len h1.1.2; omega⟩ h.cap0 h.cap1
    · exact h.ok
  split
  · split
    · exact forwardR_ok' h.ok _
    · exact h.ok
  split
  · split
    · exact ackR_ok h.ok f
    · exact h.ok
  split
  · split
    · exact becomeR_ok (baseR_ok h.ok _)
    · exact h.ok
  split
  · split
    · exact sureR_ok h.ok _
    · exact h.ok
  · exact h.ok
/-- What stays of a node. -/
structure Stays (R Q : RepM) : Prop where
  id : Q.id = R.id
  clients : Q.clients = R.clients
  cap : Q.cap = R.cap
  most : Q.most = R.most
  rcap : Q.rds.cap = R.rds.cap
theorem Stays.refl (R : RepM) : Stays R R := ⟨rfl, rfl, rfl, rfl, rfl⟩
theorem Stays.trans {R Q P : RepM} (h : Stays R Q) (k : Stays Q P) : Stays R P := ⟨k.id.trans h.id, k.clients.trans h.clients, k.cap.trans h.cap, k.most.trans h.most, k.rcap.trans h.rcap⟩
theorem RepM.Fit.stays {R Q : RepM} (h : R.Fit) (k : Stays R Q) (ok : Q.Ok) : Q.Fit := ⟨ok, by rw [k.most, k.rcap]; exact h.most, by rw [k.cap]; exact h.cap0, by rw [k.cap]; exact h.cap1, by rw [k.clients]; exact h.cl⟩
theorem finish_stays (R : RepM) : Stays R R.finishR := by unfold RepM.finishR; split <;> exact ⟨rfl, rfl, rfl, rfl, rfl⟩
theorem become_stays (R : RepM) : Stays R R.becomeR := by unfold RepM.becomeR; split <;> exact ⟨rfl, rfl, rfl, rfl, rfl⟩
theorem enter_stays (R : RepM) (c : ChM) : Stays R (enterR R c).1 := by
  refine Stays.trans (Q := ent5 R c) ?_ (finish_stays _)
  unfold ent5; split <;> exact ⟨rfl, rfl, rfl, rfl, rfl⟩
theorem put_cap (r : RdsM) (f : FrameM) (x : ResM) : (r.put f x).cap = r.cap := by unfold RdsM.put; split <;> rfl
theorem take_stays (R : RepM) (from_ : Int) (f : FrameM) (ms : List MemM) (now : Int) : Stays R (takeR R from_ f ms now).1 := by
  have r := Stays.refl R
  unfold takeR
  split
  · split
    · exact r
    split
    · exact r
    split
    · unfold readR; split
      · exact r
      · exact ⟨rfl, rfl, rfl, rfl, put_cap _ _ _⟩
    · unfold updateR; repeat' split
      all_goals exact ⟨rfl, rfl, rfl, rfl, rfl⟩
  split
  · split
    · exact enter_stays _ _
    · exact r
  split
  · split
    · unfold forwardR; split
      · exact Stays.trans (Q := (pushE R f.entry).finishR) (Stays.trans (Q := pushE R f.entry) ⟨rfl, rfl, rfl, rfl, rfl⟩ (finish_stays _)) (become_stays _)
      · exact r
    · exact r
  split
  · split
    · unfold ackR ack2 ack1; dsimp only; split <;> exact ⟨rfl, rfl, rfl, rfl, rfl⟩
    · exact r
  split
  · split
    · exact Stays.trans (Q := baseR R f.index) ⟨rfl, rfl, rfl, rfl, rfl⟩ (become_stays _)
    · exact r
  split
  · split
    · exact ⟨rfl, rfl, rfl, rfl, rfl⟩
    · exact r
  · exact r
theorem pass_stays (R : RepM) : Stays R (passR R).1 := ⟨rfl, rfl, rfl, rfl, rfl⟩
theorem serve_stays (R : RepM) (now : Int) : Stays R (serveR R now).1 := by
  unfold serveR
  split
  · exact ⟨rfl, rfl, rfl, rfl, rfl⟩
  split
  · exact ⟨rfl, rfl, rfl, rfl, rfl⟩
  · exact Stays.trans (Q := pushE (nextA R now) (nextE R now)) ⟨rfl, rfl, rfl, rfl, rfl⟩ (finish_stays _)
theorem loop_stays (now : Int) : ∀ (k : Nat) (R : RepM), Stays R (serveLoop now k R).1
  | 0, R => Stays.refl R
  | k + 1, R => by
    rw [serveLoop]
    split
    · split
      · exact (serve_stays R now).trans (loop_stays now k _)
      · exact serve_stays R now
    · exact Stays.refl R
theorem step_stays (R : RepM) (now : Int) : Stays R (stepR R now).1 := by
  have h2 : Stays R (step2 R now).1 := by
    unfold step2; split
    · exact Stays.trans (Q := expR R now) ⟨rfl, rfl, rfl, rfl, rfl⟩ (loop_stays now 65 _)
    · exact ⟨rfl, rfl, rfl, rfl, rfl⟩
  show Stays R (step3 R now).1
  unfold step3; split
  · exact h2.trans (pass_stays _)
  · exact h2
theorem takeR_fit {R : RepM} (h : R.Fit) (hr : R.rds.last < 100000000) (from_ : Int) (f : FrameM) (ms : List MemM) (now : Int) : (takeR R from_ f ms now).1.Fit := h.stays (take_stays R from_ f ms now) (takeR_ok h hr from_ f ms now)
theorem stepR_fit {R : RepM} (h : R.Fit) (now : Int) : (stepR R now).1.Fit := h.stays (step_stays R now) (stepR_ok h.ok now)
end Go.Proofs.YtbbnmgakmcppdaaGreat.Rep
namespace Go.Proofs.YtbbnmgakmcppdaaGreat.Rep
open Go Go.Proofs.YtbbnmgakmcppdaaGreat.Vg Go.Proofs.YtbbnmgakmcppdaaGreat.T Go.Proofs.YtbbnmgakmcppdaaGreat.Api Go.Proofs.YtbbnmgakmcppdaaGreat.Kv Go.Proofs.YtbbnmgakmcppdaaGreat.Ch Go.Proofs.YtbbnmgakmcppdaaGreat.Lg Go.Proofs.YtbbnmgakmcppdaaGreat.Rd Go.Proofs.YtbbnmgakmcppdaaGreat.Win Go.Proofs.YtbbnmgakmcppdaaGreat.Adm Go.Proofs.YtbbnmgakmcppdaaGreat.Sched Go.Proofs.YtbbnmgakmcppdaaGreat.Conf
set_option linter.unusedSimpArgs false
set_option linter.unusedVariables false
attribute [local irreducible] VO VC VA

section
variable {p : Nat} {R : RepM}
set_option maxRecDepth 100000 in
set_option maxHeartbeats 8000000 in
theorem take_spec (Fr : Nat → Prop) (w : World) (fit : R.Fit) (hlast : R.rds.last < 100000000) (from_ : Int) (f : FrameM) {ma : Option Addr} {mc : Nat} {ms : List MemM} (hm : RwIn memC 2 Fr w ma ms) (hml : ms.length ≤ 1000000) (hcall : f.kind = 1 → ms = []) (now : Int)
    (hi1 : -9223372036854775808 ≤ f.entry.index) (hi2 : f.entry.index ≤ 9223372036854775807) : Tri Tryz.prog 17 [.pointer (some ⟨p, 0, none⟩), .int .i64 from_, .agg (fgC f (ma, ms.length, mc)).toArray, .int .i64 now] Fr w [repH p R]
    (fun v L => sent (takeR R from_ f ms now).2 v L [repH p (takeR R from_ f ms now).1]) := by
  have ok := fit.ok
  have hcl6 := fit.cl
  have hrl : R.rds.l.length ≤ 16 := by have := ok.rl; have := ok.rc1; omega
  refine Tri.of 160 Tryz.func17 rfl (by kernel_rfl) tabOk rfl rfl ?_
  refine VC.seq (VC.region (VO.go (VO.boxA (vs := fgC f (ma, ms.length, mc)) rfl fun fb => ?_)))
  (repeat (first|refine zS ?_|refine zR ?_|refine zB ?_|refine zL ?_|refine zC ?_|refine zG (zN ?_)|refine zG (zD 0 rfl rfl rfl rfl ?_)))
  refine VO.opn 1 rfl (HOpn.rep p R) ?_
  rintro x -
  show VO _ _ _ _ _ [pt p (repCs R x) repT, slH memT 2 x.a R.ch.ms.length x.c (flat memC R.ch.ms), logH x.lp R.log, winH x.wp R.win, admH x.ap R.adm, rdsH x.rp R.rds, pt fb (fgC f (ma, ms.length, mc)) frT] _
  refine VO.go (VO.callV' (fun Fr w hF hs hS => made_spec Fr w (hS.blk 0 rfl)) rfl ?_)
  (repeat (first|refine zS ?_|refine zR ?_|refine zB ?_|refine zL ?_|refine zC ?_|refine zG (zN ?_)|refine zG (zD 0 rfl rfl rfl rfl ?_)))
  refine VC.condF rfl (VC.skip ?_)
  (repeat (first|refine zS ?_|refine zR ?_|refine zB ?_|refine zL ?_|refine zC ?_|refine zG (zN ?_)|refine zG (zD 0 rfl rfl rfl rfl ?_)))
  refine VO.go (VO.alloc rfl fun ob => ?_)
  (repeat (first|refine zS ?_|refine zR ?_|refine zB ?_|refine zL ?_|refine zC ?_|refine zG (zN ?_)|refine zG (zD 0 rfl rfl rfl rfl ?_)))
  refine VO.go (VO.light (light_makeFunc (u := [.pointer (some ⟨ob, 0, none⟩)]) (v := []) rfl rfl) ?_)
  refine VO.go (VO.nil ?_)
  refine VC.ent (L' := [pt p (repCs R x) repT, slH memT 2 x.a R.ch.ms.length x.c (flat memC R.ch.ms), logH x.lp R.log, winH x.wp R.win, admH x.ap R.adm, rdsH x.rp R.rds, outH ob [], pt fb (fgC f (ma, ms.length, mc)) frT]) (Imp.pick 1 rfl (Imp.pick 1 rfl (Imp.pick 1 rfl (Imp.pick 1 rfl (Imp.pick 1 rfl (Imp.pick 1 rfl (Imp.out (none, 0) (Imp.pick 0 rfl (Imp.slNil (Imp.pick 0 rfl Imp.nil)))))))))).ent ?_
  refine VC.seq ?_
  refine VC.meetS (σ := Unit) (fun _ => [(9, .pointer (some ⟨ob, 0, none⟩))]) (fun _ => [repH p (takeR R from_ f ms now).1, outH ob (takeR R from_ f ms now).2]) (fun _ => True) ?_ ?_
  rotate_left
  · rintro _ -
    refine VC.opn 1 rfl (HOpn.out ob _) ?_
    rintro ⟨a, c⟩ -
    show VC _ _ _ [pt ob [.slice a (takeR R from_ f ms now).2.length c] outT, slH sndT 30 a (takeR R from_ f ms now).2.length c (flat sndC (takeR R from_ f ms now).2), repH p (takeR R from_ f ms now).1] _
    (repeat (first|refine zS ?_|refine zR ?_|refine zB ?_|refine zL ?_|refine zC ?_|refine zG (zN ?_)|refine zG (zD 0 rfl rfl rfl rfl ?_)))
    exact VC.ret (Ret.tmp 8 rfl rfl (Imp.pick 2 rfl (Imp.pick 1 rfl Imp.nil)).ent ⟨a, c, rfl, rfl⟩)
  have shut : ∀ {X : Cx}, Ent X [pt p (repCs R x) repT, slH memT 2 x.a R.ch.ms.length x.c (flat memC R.ch.ms), logH x.lp R.log, winH x.wp R.win, admH x.ap R.adm, rdsH x.rp R.rds, outH ob [], pt fb (fgC f (ma, ms.length, mc)) frT] [repH p R, outH ob []] := fun {X} =>
    (Imp.rep x (Imp.pick 0 rfl (Imp.pick 0 rfl (Imp.pick 0 rfl (Imp.pick 0 rfl (Imp.pick 0 rfl (Imp.pick 0 rfl (Imp.pick 0 rfl Imp.nil)))))))).ent
  have none_ : takeR R from_ f ms now = (R, []) → ∀ {X : Cx}, Ent X [pt p (repCs R x) repT, slH memT 2 x.a R.ch.ms.length x.c (flat memC R.ch.ms), logH x.lp R.log, winH x.wp R.win, admH x.ap R.adm, rdsH x.rp R.rds, outH ob [], pt fb (fgC f (ma, ms.length, mc)) frT] [repH p (takeR R from_ f ms now).1, outH ob (takeR R from_ f ms now).2] := fun h {X} => by
    rw [h]; exact shut
  (repeat (first|refine zS ?_|refine zR ?_|refine zB ?_|refine zL ?_|refine zC ?_|refine zG (zN ?_)|refine zG (zD 0 rfl rfl rfl rfl ?_)|refine zG (zD 1 rfl rfl rfl rfl ?_)|refine zG (zD 2 rfl rfl rfl rfl ?_)|refine zG (zD 3 rfl rfl rfl rfl ?_)|refine zG (zD 4 rfl rfl rfl rfl ?_)|refine zG (zD 5 rfl rfl rfl rfl ?_)|refine zG (zD 6 rfl rfl rfl rfl ?_)|refine zG (zD 7 rfl rfl rfl rfl ?_)))
  refine VC.condE (i := f.kind) (j := 1) rfl (fun k1 => ?_) (fun k1 => ?_)
  · have hT : takeR R from_ f ms now = (if f.client < 0 then (R, []) else if R.clients ≤ f.client then (R, []) else if readsB f.op = true then readR R f now else updateR R f now) := by rw [takeR, if_pos k1]
    refine VC.seq ?_
    refine VC.seq ?_
    refine VC.draw (ts 0 12 .nil) (by kernel_rfl) (by decide +kernel) ?_
    (repeat (first|refine yG (yN ?_)|refine yG (yD 0 rfl rfl rfl rfl rfl ?_)|refine yG (yD 1 rfl rfl rfl rfl rfl ?_)|refine yG (yD 2 rfl rfl rfl rfl rfl ?_)|refine yG (yD 3 rfl rfl rfl rfl rfl ?_)|refine yG (yD 4 rfl rfl rfl rfl rfl ?_)|refine yG (yD 5 rfl rfl rfl rfl rfl ?_)|refine yG (yD 6 rfl rfl rfl rfl rfl ?_)|refine yG (yD 7 rfl rfl rfl rfl rfl ?_)))
    by_cases h1 : f.client < 0
    · refine VA.go (VA.yes 24 true rfl (decide_eq_true h1) ?_)
      (repeat (first|refine yG (yN ?_)|refine yG (yD 0 rfl rfl rfl rfl rfl ?_)|refine yG (yD 1 rfl rfl rfl rfl rfl ?_)|refine yG (yD 2 rfl rfl rfl rfl rfl ?_)|refine yG (yD 3 rfl rfl rfl rfl rfl ?_)|refine yG (yD 4 rfl rfl rfl rfl rfl ?_)|refine yG (yD 5 rfl rfl rfl rfl rfl ?_)|refine yG (yD 6 rfl rfl rfl rfl rfl ?_)|refine yG (yD 7 rfl rfl rfl rfl rfl ?_)|refine yG (yU rfl rfl rfl rfl ?_)))
      refine VC.condT rfl (VC.exit ?_)
      exact ⟨(), trivial, Sub.cons rfl (Sub.nil _), none_ (by rw [hT, if_pos h1])⟩
    refine VA.go (VA.yes 24 false rfl (decide_eq_false h1) ?_)
    (repeat (first|refine yG (yN ?_)|refine yG (yD 0 rfl rfl rfl rfl rfl ?_)|refine yG (yD 1 rfl rfl rfl rfl rfl ?_)|refine yG (yD 2 rfl rfl rfl rfl rfl ?_)|refine yG (yD 3 rfl rfl rfl rfl rfl ?_)|refine yG (yD 4 rfl rfl rfl rfl rfl ?_)|refine yG (yD 5 rfl rfl rfl rfl rfl ?_)|refine yG (yD 6 rfl rfl rfl rfl rfl ?_)|refine yG (yD 7 rfl rfl rfl rfl rfl ?_)|refine yG (yU rfl rfl rfl rfl ?_)))
    refine VC.condP (p := R.clients ≤ f.client) rfl (fun h2 => VC.exit ?_) (fun h2 => VC.skip ?_)
    · exact ⟨(), trivial, Sub.cons rfl (Sub.nil _), none_ (by rw [hT, if_neg h1, if_pos h2])⟩
    rw [if_neg h1, if_neg h2] at hT
    (repeat (first|refine zS ?_|refine zR ?_|refine zB ?_|refine zL ?_|refine zC ?_|refine zG (zN ?_)|refine zG (zD 0 rfl rfl rfl rfl ?_)))
    refine VO.go (VO.ldA 7 f.op.cells rfl rfl rfl rfl ?_)
    refine VO.go (VO.callV' (fun Fr w hF hs hS => Kv.reads_spec Fr w f.op) rfl ?_)
    (repeat (first|refine zS ?_|refine zR ?_|refine zB ?_|refine zL ?_|refine zC ?_|refine zG (zN ?_)|refine zG (zD 0 rfl rfl rfl rfl ?_)))
    refine VC.cond rfl (fun h3 => ?_) (fun h3 => ?_)
    · have h3 : readsB f.op = true := h3
      rw [if_pos h3] at hT
      (repeat (first|refine zS ?_|refine zR ?_|refine zB ?_|refine zL ?_|refine zC ?_|refine zG (zN ?_)|refine zG (zD 0 rfl rfl rfl rfl ?_)))
      refine VO.go (VO.ldA 7 (fgC f (ma, ms.length, mc)) rfl rfl rfl rfl ?_)
      refine VO.ent (L' := [repH p R, outH ob []]) shut ?_
      refine VO.go (VO.call (Lc := [repH p R, outH ob []]) (Lr := []) (fun Fr w hF hs hS => read_spec Fr w ok fit.most (by show 0 ≤ 900000; omega) f (hm.of hF hs) hml now (by omega) (by omega)) rfl rfl ?_)
      rintro _ _ ⟨rfl, rfl⟩
      (repeat (first|refine zS ?_|refine zR ?_|refine zB ?_|refine zL ?_|refine zC ?_|refine zG (zN ?_)|refine zG (zD 0 rfl rfl rfl rfl ?_)))
      refine ⟨(), trivial, Sub.cons rfl (Sub.nil _), ?_⟩
      rw [hT]; exact Ent.refl
    · have h3 : ¬ readsB f.op = true := fun h => by rw [show readsB f.op = false from h3] at h; cases h
      rw [if_neg h3] at hT
      have hms := hcall k1
      (repeat (first|refine zS ?_|refine zR ?_|refine zB ?_|refine zL ?_|refine zC ?_|refine zG (zN ?_)|refine zG (zD 0 rfl rfl rfl rfl ?_)))
      refine VO.go (VO.ldA 7 (fgC f (ma, ms.length, mc)) rfl rfl rfl rfl ?_)
      refine VO.ent (L' := [repH p R, outH ob []]) shut ?_
      refine VO.go (VO.call (Lc := [repH p R, outH ob []]) (Lr := []) (fun Fr w hF hs hS => update_spec Fr w ok (by show 0 ≤ 900000; omega) f (ma, mc) now (by omega) (by omega)) (by subst hms; rfl) rfl ?_)
      rintro _ _ ⟨rfl, rfl⟩
      (repeat (first|refine zS ?_|refine zR ?_|refine zB ?_|refine zL ?_|refine zC ?_|refine zG (zN ?_)|refine zG (zD 0 rfl rfl rfl rfl ?_)))
      refine ⟨(), trivial, Sub.cons rfl (Sub.nil _), ?_⟩
      rw [hT]; exact Ent.refl
  refine VC.seq ?_
  (repeat (first|refine zS ?_|refine zR ?_|refine zB ?_|refine zL ?_|refine zC ?_|refine zG (zN ?_)|refine zG (zD 0 rfl rfl rfl rfl ?_)))
  refine VC.condE (i := f.kind) (j := 8) rfl (fun k2 => ?_) (fun k2 => ?_)
  · have hT : takeR R from_ f ms now = (if (from_ = 16 ∧ chE (frCh f ms) = 0) ∧ R.ch.epoch < f.cepoch then enterR R (frCh f ms) else (R, [])) := by rw [takeR, if_neg k1, if_pos k2]
    refine VC.seq ?_
    refine VC.draw (ts 0 5 (.only 5 (ts 6 13 .nil))) (by kernel_rfl) (by decide +kernel) ?_
    (repeat (first|refine yG (yN ?_)|refine yG (yD 0 rfl rfl rfl rfl rfl ?_)|refine yG (yD 1 rfl rfl rfl rfl rfl ?_)|refine yG (yD 2 rfl rfl rfl rfl rfl ?_)|refine yG (yD 3 rfl rfl rfl rfl rfl ?_)|refine yG (yD 4 rfl rfl rfl rfl rfl ?_)|refine yG (yD 5 rfl rfl rfl rfl rfl ?_)|refine yG (yD 6 rfl rfl rfl rfl rfl ?_)|refine yG (yD 7 rfl rfl rfl rfl rfl ?_)))
    by_cases h1 : from_ = 16
    rotate_left
    · rw [if_neg (fun h => h1 h.1.1)] at hT
      refine VA.go (VA.yes 50 false rfl (by simp [h1]) ?_)
      (repeat (first|refine yG (yN ?_)|refine yG (yD 0 rfl rfl rfl rfl rfl ?_)|refine yG (yD 1 rfl rfl rfl rfl rfl ?_)|refine yG (yD 2 rfl rfl rfl rfl rfl ?_)|refine yG (yD 3 rfl rfl rfl rfl rfl ?_)|refine yG (yD 4 rfl rfl rfl rfl rfl ?_)|refine yG (yD 5 rfl rfl rfl rfl rfl ?_)|refine yG (yD 6 rfl rfl rfl rfl rfl ?_)|refine yG (yD 7 rfl rfl rfl rfl rfl ?_)|refine yG (yU rfl rfl rfl rfl ?_)))
      refine VA.go (VA.offO rfl rfl ?_)
      (repeat (first|refine yG (yN ?_)|refine yG (yD 0 rfl rfl rfl rfl rfl ?_)|refine yG (yD 1 rfl rfl rfl rfl rfl ?_)|refine yG (yD 2 rfl rfl rfl rfl rfl ?_)|refine yG (yD 3 rfl rfl rfl rfl rfl ?_)|refine yG (yD 4 rfl rfl rfl rfl rfl ?_)|refine yG (yD 5 rfl rfl rfl rfl rfl ?_)|refine yG (yD 6 rfl rfl rfl rfl rfl ?_)|refine yG (yD 7 rfl rfl rfl rfl rfl ?_)|refine yG (yU rfl rfl rfl rfl ?_)))
      refine VA.go (VA.yes 56 false rfl rfl ?_)
      (repeat (first|refine yG (yN ?_)|refine yG (yD 0 rfl rfl rfl rfl rfl ?_)|refine yG (yD 1 rfl rfl rfl rfl rfl ?_)|refine yG (yD 2 rfl rfl rfl rfl rfl ?_)|refine yG (yD 3 rfl rfl rfl rfl rfl ?_)|refine yG (yD 4 rfl rfl rfl rfl rfl ?_)|refine yG (yD 5 rfl rfl rfl rfl rfl ?_)|refine yG (yD 6 rfl rfl rfl rfl rfl ?_)|refine yG (yD 7 rfl rfl rfl rfl rfl ?_)|refine yG (yU rfl rfl rfl rfl ?_)))
      refine VC.condF rfl (VC.skip ?_)
      exact ⟨(), trivial, Sub.cons rfl (Sub.nil _), none_ hT⟩
    refine VA.go (VA.yes 50 true rfl (by simp [h1]) ?_)
    (repeat (first|refine yG (yN ?_)|refine yG (yD 0 rfl rfl rfl rfl rfl ?_)|refine yG (yD 1 rfl rfl rfl rfl rfl ?_)|refine yG (yD 2 rfl rfl rfl rfl rfl ?_)|refine yG (yD 3 rfl rfl rfl rfl rfl ?_)|refine yG (yD 4 rfl rfl rfl rfl rfl ?_)|refine yG (yD 5 rfl rfl rfl rfl rfl ?_)|refine yG (yD 6 rfl rfl rfl rfl rfl ?_)|refine yG (yD 7 rfl rfl rfl rfl rfl ?_)|refine yG (yU rfl rfl rfl rfl ?_)))
    refine VA.go (VA.ldA 7 ((frCh f ms).cells ma mc) rfl rfl rfl rfl rfl ?_)
    refine VA.go (VA.callR (fun Fr w hF hs hS => Ch.check_spec Fr w (c := frCh f ms) (hm.of hF hs) (by show ms.length ≤ _; omega)) rfl rfl (by (try refine Pd.st ?_);(repeat (first|exact Pd.nil|exact Pd.fnil|refine Pd.inner ?_|refine Pd.skip (by decide +kernel) ?_|refine zf (zo 0 rfl rfl) ?_|refine zf (zo 1 rfl rfl) ?_|refine zf (zo 2 rfl rfl) ?_|refine zf (zo 3 rfl rfl) ?_|refine zf (zo 4 rfl rfl) ?_|refine zf (zo 5 rfl rfl) ?_|refine zf (zo 6 rfl rfl) ?_|refine zf (zo 7 rfl rfl) ?_|refine zf (zm 0 rfl rfl) ?_|refine zf (zm 1 rfl rfl) ?_|refine zf (zm 2 rfl rfl) ?_|refine zf (zm 3 rfl rfl) ?_|refine zf (zm 4 rfl rfl) ?_|refine zf (zm 5 rfl rfl) ?_|refine zf (zm 6 rfl rfl) ?_|refine zf (zm 7 rfl rfl) ?_|refine zc (zo 0 rfl rfl) ?_|refine zc (zo 1 rfl rfl) ?_|refine zc (zo 2 rfl rfl) ?_|refine zc (zo 3 rfl rfl) ?_|refine zc (zo 4 rfl rfl) ?_|refine zc (zo 5 rfl rfl) ?_|refine zc (zo 6 rfl rfl) ?_|refine zc (zo 7 rfl rfl) ?_|refine zc (zm 0 rfl rfl) ?_|refine zc (zm 1 rfl rfl) ?_|refine zc (zm 2 rfl rfl) ?_|refine zc (zm 3 rfl rfl) ?_|refine zc (zm 4 rfl rfl) ?_|refine zc (zm 5 rfl rfl) ?_|refine zc (zm 6 rfl rfl) ?_|refine zc (zm 7 rfl rfl) ?_))) ?_)
    (repeat (first|refine yG (yN ?_)|refine yG (yD 0 rfl rfl rfl rfl rfl ?_)|refine yG (yD 1 rfl rfl rfl rfl rfl ?_)|refine yG (yD 2 rfl rfl rfl rfl rfl ?_)|refine yG (yD 3 rfl rfl rfl rfl rfl ?_)|refine yG (yD 4 rfl rfl rfl rfl rfl ?_)|refine yG (yD 5 rfl rfl rfl rfl rfl ?_)|refine yG (yD 6 rfl rfl rfl rfl rfl ?_)|refine yG (yD 7 rfl rfl rfl rfl rfl ?_)|refine yG (yU rfl rfl rfl rfl ?_)))
    by_cases h2 : chE (frCh f ms) = 0
    rotate_left
    · rw [if_neg (fun h => h2 h.1.2)] at hT
      refine VA.go (VA.yes 56 false rfl (by simp [h2]) ?_)
      (repeat (first|refine yG (yN ?_)|refine yG (yD 0 rfl rfl rfl rfl rfl ?_)|refine yG (yD 1 rfl rfl rfl rfl rfl ?_)|refine yG (yD 2 rfl rfl rfl rfl rfl ?_)|refine yG (yD 3 rfl rfl rfl rfl rfl ?_)|refine yG (yD 4 rfl rfl rfl rfl rfl ?_)|refine yG (yD 5 rfl rfl rfl rfl rfl ?_)|refine yG (yD 6 rfl rfl rfl rfl rfl ?_)|refine yG (yD 7 rfl rfl rfl rfl rfl ?_)|refine yG (yU rfl rfl rfl rfl ?_)))
      refine VC.condF rfl (VC.skip ?_)
      exact ⟨(), trivial, Sub.cons rfl (Sub.nil _), none_ hT⟩
    refine VA.go (VA.yes 56 true rfl (by simp [h2]) ?_)
    (repeat (first|refine yG (yN ?_)|refine yG (yD 0 rfl rfl rfl rfl rfl ?_)|refine yG (yD 1 rfl rfl rfl rfl rfl ?_)|refine yG (yD 2 rfl rfl rfl rfl rfl ?_)|refine yG (yD 3 rfl rfl rfl rfl rfl ?_)|refine yG (yD 4 rfl rfl rfl rfl rfl ?_)|refine yG (yD 5 rfl rfl rfl rfl rfl ?_)|refine yG (yD 6 rfl rfl rfl rfl rfl ?_)|refine yG (yD 7 rfl rfl rfl rfl rfl ?_)|refine yG (yU rfl rfl rfl rfl ?_)))
    refine VC.condP (p := R.ch.epoch < f.cepoch) rfl (fun h3 => ?_) (fun h3 => VC.skip ?_)
    · rw [if_pos ⟨⟨h1, h2⟩, h3⟩] at hT
      have hcs : ChS (frCh f ms) := ⟨by have := chE_len h2; omega⟩
      (repeat (first|refine zS ?_|refine zR ?_|refine zB ?_|refine zL ?_|refine zC ?_|refine zG (zN ?_)|refine zG (zD 0 rfl rfl rfl rfl ?_)))
      refine VO.go (VO.ldA 7 ((frCh f ms).cells ma mc) rfl rfl rfl rfl ?_)
      refine VO.ent (L' := [repH p R, outH ob []]) shut ?_
      (repeat (first|refine zS ?_|refine zR ?_|refine zB ?_|refine zL ?_|refine zC ?_|refine zG (zN ?_)|refine zG (zD 0 rfl rfl rfl rfl ?_)))
      refine VO.go (VO.call (Lc := [repH p R, outH ob []]) (Lr := []) (fun Fr w hF hs hS => enter_spec Fr w ok fit.cap0 fit.cap1 (by show 0 ≤ 800000; omega) (c := frCh f ms) (hm.of hF hs) hcs) rfl rfl ?_)
      rintro _ _ ⟨rfl, rfl⟩
      (repeat (first|refine zS ?_|refine zR ?_|refine zB ?_|refine zL ?_|refine zC ?_|refine zG (zN ?_)|refine zG (zD 0 rfl rfl rfl rfl ?_)))
      refine ⟨(), trivial, Sub.cons rfl (Sub.nil _), ?_⟩
      rw [hT]; exact Ent.refl
    · rw [if_neg (fun h => h3 h.2)] at hT
      exact ⟨(), trivial, Sub.cons rfl (Sub.nil _), none_ hT⟩
  refine VC.seq ?_
  (repeat (first|refine zS ?_|refine zR ?_|refine zB ?_|refine zL ?_|refine zC ?_|refine zG (zN ?_)|refine zG (zD 0 rfl rfl rfl rfl ?_)))
  refine VC.condE (i := f.kind) (j := 4) rfl (fun k3 => ?_) (fun k3 => ?_)
  · have hT : takeR R from_ f ms now = (if R.knownB f = true ∧ isNodeB from_ R.prevM = true then forwardR R f.entry else (R, [])) := by rw [takeR, if_neg k1, if_neg k2, if_pos k3]
    (repeat (first|refine zS ?_|refine zR ?_|refine zB ?_|refine zL ?_|refine zC ?_|refine zG (zN ?_)|refine zG (zD 0 rfl rfl rfl rfl ?_)))
    refine VO.go (VO.ldA 7 (fgC f (ma, ms.length, mc)) rfl rfl rfl rfl ?_)
    refine VO.go (VO.callV' (fun Fr w hF hs hS => known_spec Fr w (hS.blk 0 rfl) f _) rfl ?_)
    (repeat (first|refine zS ?_|refine zR ?_|refine zB ?_|refine zL ?_|refine zC ?_|refine zG (zN ?_)|refine zG (zD 0 rfl rfl rfl rfl ?_)))
    by_cases h1 : R.knownB f = true
    rotate_left
    · rw [if_neg (fun h => h1 h.1)] at hT
      have h1 : R.knownB f = false := by simpa using h1
      refine VO.go (VO.yes 77 false rfl h1 ?_)
      (repeat (first|refine zS ?_|refine zR ?_|refine zB ?_|refine zL ?_|refine zC ?_|refine zG (zN ?_)|refine zG (zD 0 rfl rfl rfl rfl ?_)|refine zG (zU rfl rfl rfl ?_)))
      refine VC.condF rfl (VC.skip ?_)
      exact ⟨(), trivial, Sub.cons rfl (Sub.nil _), none_ hT⟩
    refine VO.go (VO.yes 77 true rfl h1 ?_)
    (repeat (first|refine zS ?_|refine zR ?_|refine zB ?_|refine zL ?_|refine zC ?_|refine zG (zN ?_)|refine zG (zD 0 rfl rfl rfl rfl ?_)|refine zG (zU rfl rfl rfl ?_)))
    refine VO.go (VO.callV' (fun Fr w hF hs hS => Rep.prev_spec Fr w (hS.blk 0 rfl) (RwIn.slH memC_len (hS.at_ 1 rfl)) ok.ch) rfl ?_)
    (repeat (first|refine zS ?_|refine zR ?_|refine zB ?_|refine zL ?_|refine zC ?_|refine zG (zN ?_)|refine zG (zD 0 rfl rfl rfl rfl ?_)|refine zG (zU rfl rfl rfl ?_)))
    refine VO.go (VO.callV (fun Fr w => isNode_spec Fr w from_ R.prevM) rfl ?_)
    (repeat (first|refine zS ?_|refine zR ?_|refine zB ?_|refine zL ?_|refine zC ?_|refine zG (zN ?_)|refine zG (zD 0 rfl rfl rfl rfl ?_)|refine zG (zU rfl rfl rfl ?_)))
    refine VC.cond rfl (fun h2 => ?_) (fun h2 => VC.skip ?_)
    · rw [if_pos ⟨h1, h2⟩] at hT
      (repeat (first|refine zS ?_|refine zR ?_|refine zB ?_|refine zL ?_|refine zC ?_|refine zG (zN ?_)|refine zG (zD 0 rfl rfl rfl rfl ?_)))
      refine VO.go (VO.ldA 7 (entC f.entry) rfl rfl rfl rfl ?_)
      refine VO.ent (L' := [repH p R, outH ob []]) shut ?_
      (repeat (first|refine zS ?_|refine zR ?_|refine zB ?_|refine zL ?_|refine zC ?_|refine zG (zN ?_)|refine zG (zD 0 rfl rfl rfl rfl ?_)))
      refine VO.go (VO.call (Lc := [repH p R, outH ob []]) (Lr := []) (fun Fr w hF hs hS => forward_spec Fr w ok (by show 0 ≤ 800000; omega) f.entry hi1 hi2) rfl rfl ?_)
      rintro _ _ ⟨rfl, rfl⟩
      (repeat (first|refine zS ?_|refine zR ?_|refine zB ?_|refine zL ?_|refine zC ?_|refine zG (zN ?_)|refine zG (zD 0 rfl rfl rfl rfl ?_)))
      refine ⟨(), trivial, Sub.cons rfl (Sub.nil _), ?_⟩
      rw [hT]; exact Ent.refl
    · rw [if_neg (fun h => by have := h.2; rw [h2] at this; cases this)] at hT
      exact ⟨(), trivial, Sub.cons rfl (Sub.nil _), none_ hT⟩
  refine VC.seq ?_
  (repeat (first|refine zS ?_|refine zR ?_|refine zB ?_|refine zL ?_|refine zC ?_|refine zG (zN ?_)|refine zG (zD 0 rfl rfl rfl rfl ?_)))
  refine VC.condE (i := f.kind) (j := 5) rfl (fun k4 => ?_) (fun k4 => ?_)
  · have hT : takeR R from_ f ms now = (if R.knownB f = true ∧ isNodeB from_ R.nextM = true then ackR R f else (R, [])) := by rw [takeR, if_neg k1, if_neg k2, if_neg k3, if_pos k4]
    (repeat (first|refine zS ?_|refine zR ?_|refine zB ?_|refine zL ?_|refine zC ?_|refine zG (zN ?_)|refine zG (zD 0 rfl rfl rfl rfl ?_)))
    refine VO.go (VO.ldA 7 (fgC f (ma, ms.length, mc)) rfl rfl rfl rfl ?_)
    refine VO.go (VO.callV' (fun Fr w hF hs hS => known_spec Fr w (hS.blk 0 rfl) f _) rfl ?_)
    (repeat (first|refine zS ?_|refine zR ?_|refine zB ?_|refine zL ?_|refine zC ?_|refine zG (zN ?_)|refine zG (zD 0 rfl rfl rfl rfl ?_)))
    by_cases h1 : R.knownB f = true
    rotate_left
    · rw [if_neg (fun h => h1 h.1)] at hT
      have h1 : R.knownB f = false := by simpa using h1
      refine VO.go (VO.yes 93 false rfl h1 ?_)
      (repeat (first|refine zS ?_|refine zR ?_|refine zB ?_|refine zL ?_|refine zC ?_|refine zG (zN ?_)|refine zG (zD 0 rfl rfl rfl rfl ?_)|refine zG (zU rfl rfl rfl ?_)))
      refine VC.condF rfl (VC.skip ?_)
      exact ⟨(), trivial, Sub.cons rfl (Sub.nil _), none_ hT⟩
    refine VO.go (VO.yes 93 true rfl h1 ?_)
    (repeat (first|refine zS ?_|refine zR ?_|refine zB ?_|refine zL ?_|refine zC ?_|refine zG (zN ?_)|refine zG (zD 0 rfl rfl rfl rfl ?_)|refine zG (zU rfl rfl rfl ?_)))
    refine VO.go (VO.callV' (fun Fr w hF hs hS => Rep.next_spec Fr w (hS.blk 0 rfl) (RwIn.slH memC_len (hS.at_ 1 rfl)) ok.ch) rfl ?_)
    (repeat (first|refine zS ?_|refine zR ?_|refine zB ?_|refine zL ?_|refine zC ?_|refine zG (zN ?_)|refine zG (zD 0 rfl rfl rfl rfl ?_)|refine zG (zU rfl rfl rfl ?_)))
    refine VO.go (VO.callV (fun Fr w => isNode_spec Fr w from_ R.nextM) rfl ?_)
    (repeat (first|refine zS ?_|refine zR ?_|refine zB ?_|refine zL ?_|refine zC ?_|refine zG (zN ?_)|refine zG (zD 0 rfl rfl rfl rfl ?_)|refine zG (zU rfl rfl rfl ?_)))
    refine VC.cond rfl (fun h2 => ?_) (fun h2 => VC.skip ?_)
    · rw [if_pos ⟨h1, h2⟩] at hT
      (repeat (first|refine zS ?_|refine zR ?_|refine zB ?_|refine zL ?_|refine zC ?_|refine zG (zN ?_)|refine zG (zD 0 rfl rfl rfl rfl ?_)))
      refine VO.go (VO.ldA 7 (fgC f (ma, ms.length, mc)) rfl rfl rfl rfl ?_)
      refine VO.ent (L' := [repH p R, outH ob []]) shut ?_
      (repeat (first|refine zS ?_|refine zR ?_|refine zB ?_|refine zL ?_|refine zC ?_|refine zG (zN ?_)|refine zG (zD 0 rfl rfl rfl rfl ?_)))
      refine VO.go (VO.call (Lc := [repH p R, outH ob []]) (Lr := []) (fun Fr w hF hs hS => ack_spec Fr w ok (by show 0 ≤ 800000; omega) f _) rfl rfl ?_)
      rintro _ _ ⟨rfl, rfl⟩
      (repeat (first|refine zS ?_|refine zR ?_|refine zB ?_|refine zL ?_|refine zC ?_|refine zG (zN ?_)|refine zG (zD 0 rfl rfl rfl rfl ?_)))
      refine ⟨(), trivial, Sub.cons rfl (Sub.nil _), ?_⟩
      rw [hT]; exact Ent.refl
    · rw [if_neg (fun h => by have := h.2; rw [h2] at this; cases this)] at hT
      exact ⟨(), trivial, Sub.cons rfl (Sub.nil _), none_ hT⟩
  refine VC.seq ?_
  (repeat (first|refine zS ?_|refine zR ?_|refine zB ?_|refine zL ?_|refine zC ?_|refine zG (zN ?_)|refine zG (zD 0 rfl rfl rfl rfl ?_)))
  refine VC.condE (i := f.kind) (j := 6) rfl (fun k5 => ?_) (fun k5 => ?_)
  · have hT : takeR R from_ f ms now = (if R.knownB f = true ∧ isNodeB from_ R.prevM = true then ((baseR R f.index).becomeR, (baseR R f.index).becomeM) else (R, [])) := by rw [takeR, if_neg k1, if_neg k2, if_neg k3, if_neg k4, if_pos k5]
    (repeat (first|refine zS ?_|refine zR ?_|refine zB ?_|refine zL ?_|refine zC ?_|refine zG (zN ?_)|refine zG (zD 0 rfl rfl rfl rfl ?_)))
    refine VO.go (VO.ldA 7 (fgC f (ma, ms.length, mc)) rfl rfl rfl rfl ?_)
    refine VO.go (VO.callV' (fun Fr w hF hs hS => known_spec Fr w (hS.blk 0 rfl) f _) rfl ?_)
    (repeat (first|refine zS ?_|refine zR ?_|refine zB ?_|refine zL ?_|refine zC ?_|refine zG (zN ?_)|refine zG (zD 0 rfl rfl rfl rfl ?_)))
    by_cases h1 : R.knownB f = true
    rotate_left
    · rw [if_neg (fun h => h1 h.1)] at hT
      have h1 : R.knownB f = false := by simpa using h1
      refine VO.go (VO.yes 108 false rfl h1 ?_)
      (repeat (first|refine zS ?_|refine zR ?_|refine zB ?_|refine zL ?_|refine zC ?_|refine zG (zN ?_)|refine zG (zD 0 rfl rfl rfl rfl ?_)|refine zG (zU rfl rfl rfl ?_)))
      refine VC.condF rfl (VC.skip ?_)
      exact ⟨(), trivial, Sub.cons rfl (Sub.nil _), none_ hT⟩
    refine VO.go (VO.yes 108 true rfl h1 ?_)
    (repeat (first|refine zS ?_|refine zR ?_|refine zB ?_|refine zL ?_|refine zC ?_|refine zG (zN ?_)|refine zG (zD 0 rfl rfl rfl rfl ?_)|refine zG (zU rfl rfl rfl ?_)))
    refine VO.go (VO.callV' (fun Fr w hF hs hS => Rep.prev_spec Fr w (hS.blk 0 rfl) (RwIn.slH memC_len (hS.at_ 1 rfl)) ok.ch) rfl ?_)
    (repeat (first|refine zS ?_|refine zR ?_|refine zB ?_|refine zL ?_|refine zC ?_|refine zG (zN ?_)|refine zG (zD 0 rfl rfl rfl rfl ?_)|refine zG (zU rfl rfl rfl ?_)))
    refine VO.go (VO.callV (fun Fr w => isNode_spec Fr w from_ R.prevM) rfl ?_)
    (repeat (first|refine zS ?_|refine zR ?_|refine zB ?_|refine zL ?_|refine zC ?_|refine zG (zN ?_)|refine zG (zD 0 rfl rfl rfl rfl ?_)|refine zG (zU rfl rfl rfl ?_)))
    refine VC.cond rfl (fun h2 => ?_) (fun h2 => VC.skip ?_)
    · rw [if_pos ⟨h1, h2⟩] at hT
      have okb := baseR_ok ok f.index
      (repeat (first|refine zS ?_|refine zR ?_|refine zB ?_|refine zL ?_|refine zC ?_|refine zG (zN ?_)|refine zG (zD 0 rfl rfl rfl rfl ?_)|refine zG (zD 1 rfl rfl rfl rfl ?_)|refine zG (zD 2 rfl rfl rfl rfl ?_)|refine zG (zD 3 rfl rfl rfl rfl ?_)|refine zG (zD 4 rfl rfl rfl rfl ?_)|refine zG (zD 5 rfl rfl rfl rfl ?_)|refine zG (zD 6 rfl rfl rfl rfl ?_)|refine zG (zD 7 rfl rfl rfl rfl ?_)))
      refine VO.go (VO.st 0 (cs' := repCs (baseR R f.index) x) rfl rfl rfl rfl (by show 14 < 17; omega) (by
        rw [show (if f.index < -1 then (-1 : Int) else f.index) = max f.index (-1) by split <;> omega]
        rfl) rfl ?_)
      (repeat (first|refine zS ?_|refine zR ?_|refine zB ?_|refine zL ?_|refine zC ?_|refine zG (zN ?_)|refine zG (zD 0 rfl rfl rfl rfl ?_)))
      refine VO.ent (L' := [repH p (baseR R f.index), outH ob []]) (Imp.rep (R := baseR R f.index) x (Imp.pick 0 rfl (Imp.pick 0 rfl (Imp.pick 0 rfl (Imp.pick 0 rfl (Imp.pick 0 rfl (Imp.pick 0 rfl (Imp.pick 0 rfl Imp.nil)))))))).ent ?_
      refine VO.go (VO.call (Lc := [repH p (baseR R f.index), outH ob []]) (Lr := []) (fun Fr w hF hs hS => become_spec Fr w okb (by show 0 ≤ 900000; omega)) rfl rfl ?_)
      rintro _ _ ⟨rfl, rfl⟩
      (repeat (first|refine zS ?_|refine zR ?_|refine zB ?_|refine zL ?_|refine zC ?_|refine zG (zN ?_)|refine zG (zD 0 rfl rfl rfl rfl ?_)))
      refine ⟨(), trivial, Sub.cons rfl (Sub.nil _), ?_⟩
      rw [hT]; exact Ent.refl
    · rw [if_neg (fun h => by have := h.2; rw [h2] at this; cases this)] at hT
      exact ⟨(), trivial, Sub.cons rfl (Sub.nil _), none_ hT⟩
  refine VC.seq ?_
  (repeat (first|refine zS ?_|refine zR ?_|refine zB ?_|refine zL ?_|refine zC ?_|refine zG (zN ?_)|refine zG (zD 0 rfl rfl rfl rfl ?_)))
  refine VC.condE (i := f.kind) (j := 10) rfl (fun k6 => ?_) (fun k6 => VC.skip ?_)
  rotate_left
  · exact ⟨(), trivial, Sub.cons rfl (Sub.nil _), none_ (by rw [takeR, if_neg k1, if_neg k2, if_neg k3, if_neg k4, if_neg k5, if_neg k6])⟩
  have hT : takeR R from_ f ms now = (if R.knownB f = true ∧ from_ = 16 then (sureR R f.index, sureS R f.index) else (R, [])) := by rw [takeR, if_neg k1, if_neg k2, if_neg k3, if_neg k4, if_neg k5, if_pos k6]
  (repeat (first|refine zS ?_|refine zR ?_|refine zB ?_|refine zL ?_|refine zC ?_|refine zG (zN ?_)|refine zG (zD 0 rfl rfl rfl rfl ?_)))
  refine VO.go (VO.ldA 7 (fgC f (ma, ms.length, mc)) rfl rfl rfl rfl ?_)
  refine VO.go (VO.callV' (fun Fr w hF hs hS => known_spec Fr w (hS.blk 0 rfl) f _) rfl ?_)
  (repeat (first|refine zS ?_|refine zR ?_|refine zB ?_|refine zL ?_|refine zC ?_|refine zG (zN ?_)|refine zG (zD 0 rfl rfl rfl rfl ?_)))
  by_cases h1 : R.knownB f = true
  rotate_left
  · rw [if_neg (fun h => h1 h.1)] at hT
    have h1 : R.knownB f = false := by simpa using h1
    refine VO.go (VO.yes 128 false rfl h1 ?_)
    (repeat (first|refine zS ?_|refine zR ?_|refine zB ?_|refine zL ?_|refine zC ?_|refine zG (zN ?_)|refine zG (zD 0 rfl rfl rfl rfl ?_)|refine zG (zU rfl rfl rfl ?_)))
    refine VC.condF rfl (VC.skip ?_)
    exact ⟨(), trivial, Sub.cons rfl (Sub.nil _), none_ hT⟩
  refine VO.go (VO.yes 128 true rfl h1 ?_)
  (repeat (first|refine zS ?_|refine zR ?_|refine zB ?_|refine zL ?_|refine zC ?_|refine zG (zN ?_)|refine zG (zD 0 rfl rfl rfl rfl ?_)|refine zG (zU rfl rfl rfl ?_)))
  refine VC.condE (i := from_) (j := 16) rfl (fun h2 => ?_) (fun h2 => VC.skip ?_)
  rotate_left
  · rw [if_neg (fun h => h2 h.2)] at hT
    exact ⟨(), trivial, Sub.cons rfl (Sub.nil _), none_ hT⟩
  rw [if_pos ⟨h1, h2⟩] at hT
  refine VC.ent (L' := [rdsH x.rp R.rds, pt p (repCs R x) repT, slH memT 2 x.a R.ch.ms.length x.c (flat memC R.ch.ms), logH x.lp R.log, winH x.wp R.win, admH x.ap R.adm, outH ob [], pt fb (fgC f (ma, ms.length, mc)) frT]) (Imp.pick 5 rfl (Imp.pick 0 rfl (Imp.pick 0 rfl (Imp.pick 0 rfl (Imp.pick 0 rfl (Imp.pick 0 rfl (Imp.pick 0 rfl (Imp.pick 0 rfl Imp.nil)))))))).ent ?_
  refine VC.seq ?_
  refine VC.draw (ts 0 6 (.take 8 (.only 6 (.take 7 .nil)))) (by kernel_rfl) (by decide +kernel) ?_
  (repeat (first|refine yG (yN ?_)|refine yG (yD 0 rfl rfl rfl rfl rfl ?_)|refine yG (yD 1 rfl rfl rfl rfl rfl ?_)|refine yG (yD 2 rfl rfl rfl rfl rfl ?_)|refine yG (yD 3 rfl rfl rfl rfl rfl ?_)|refine yG (yD 4 rfl rfl rfl rfl rfl ?_)|refine yG (yD 5 rfl rfl rfl rfl rfl ?_)|refine yG (yD 6 rfl rfl rfl rfl rfl ?_)|refine yG (yD 7 rfl rfl rfl rfl rfl ?_)))
  refine VA.go (VA.opP (OpT.call (Lc := [rdsH x.rp R.rds]) (R := fun v L => ∃ a c rows, rows.map Prod.fst = R.rds.l.filter (fun x => !surely f.index x) ∧ v = .slice a rows.length c ∧ L = [rdsH x.rp { R.rds with l := R.rds.l.filter (surely f.index) }, slH rdT 34 a rows.length c (flat rdC rows)]) rfl (.refl _) (fun Fr w hF hs hS => Rd.sure_spec Fr w ok.rc0 (by omega) f.index)) rfl ?_ ?_)
  · rintro _ _ ⟨_, ⟨ga, gc, rows, hrows, rfl, rfl⟩, rfl⟩
    exact (by (try refine Pd.st ?_);(repeat (first|exact Pd.nil|exact Pd.fnil|refine Pd.inner ?_|refine Pd.skip (by decide +kernel) ?_|refine zf (zo 0 rfl rfl) ?_|refine zf (zo 1 rfl rfl) ?_|refine zf (zo 2 rfl rfl) ?_|refine zf (zo 3 rfl rfl) ?_|refine zf (zo 4 rfl rfl) ?_|refine zf (zo 5 rfl rfl) ?_|refine zf (zo 6 rfl rfl) ?_|refine zf (zo 7 rfl rfl) ?_|refine zf (zo 8 rfl rfl) ?_|refine zf (zm 0 rfl rfl) ?_|refine zf (zm 1 rfl rfl) ?_|refine zf (zm 2 rfl rfl) ?_|refine zf (zm 3 rfl rfl) ?_|refine zf (zm 4 rfl rfl) ?_|refine zf (zm 5 rfl rfl) ?_|refine zf (zm 6 rfl rfl) ?_|refine zf (zm 7 rfl rfl) ?_|refine zf (zm 8 rfl rfl) ?_|refine zc (zo 0 rfl rfl) ?_|refine zc (zo 1 rfl rfl) ?_|refine zc (zo 2 rfl rfl) ?_|refine zc (zo 3 rfl rfl) ?_|refine zc (zo 4 rfl rfl) ?_|refine zc (zo 5 rfl rfl) ?_|refine zc (zo 6 rfl rfl) ?_|refine zc (zo 7 rfl rfl) ?_|refine zc (zo 8 rfl rfl) ?_|refine zc (zm 0 rfl rfl) ?_|refine zc (zm 1 rfl rfl) ?_|refine zc (zm 2 rfl rfl) ?_|refine zc (zm 3 rfl rfl) ?_|refine zc (zm 4 rfl rfl) ?_|refine zc (zm 5 rfl rfl) ?_|refine zc (zm 6 rfl rfl) ?_|refine zc (zm 7 rfl rfl) ?_|refine zc (zm 8 rfl rfl) ?_)))
  rintro _ _ ⟨_, ⟨ga, gc, rows, hrows, rfl, rfl⟩, rfl⟩
  (repeat (first|refine yG (yN ?_)|refine yG (yD 0 rfl rfl rfl rfl rfl ?_)|refine yG (yD 1 rfl rfl rfl rfl rfl ?_)|refine yG (yD 2 rfl rfl rfl rfl rfl ?_)|refine yG (yD 3 rfl rfl rfl rfl rfl ?_)|refine yG (yD 4 rfl rfl rfl rfl rfl ?_)|refine yG (yD 5 rfl rfl rfl rfl rfl ?_)|refine yG (yD 6 rfl rfl rfl rfl rfl ?_)|refine yG (yD 7 rfl rfl rfl rfl rfl ?_)|refine yG (yD 8 rfl rfl rfl rfl rfl ?_)))
  have hrowl : rows.length ≤ 16 := by
    have := congrArg List.length hrows
    rw [List.length_map] at this
    have h2 := List.length_filter_le (fun y => !surely f.index y) R.rds.l
    omega
  show VC _ _ _ [rdsH x.rp (sureR R f.index).rds, slH rdT 34 ga rows.length gc (flat rdC rows), pt p (repCs R x) repT, slH memT 2 x.a R.ch.ms.length x.c (flat memC R.ch.ms), logH x.lp R.log, winH x.wp R.win, admH x.ap R.adm, outH ob [], pt fb (fgC f (ma, ms.length, mc)) frT] _
  refine VC.opn 1 rfl (HOpn.rl rdT ga gc rows rdC_len) ?_
  rintro r ⟨rok, hrv, hrx⟩
  show VC _ _ _ [r.h rdT, rdsH x.rp (sureR R f.index).rds, pt p (repCs R x) repT, slH memT 2 x.a R.ch.ms.length x.c (flat memC R.ch.ms), logH x.lp R.log, winH x.wp R.win, admH x.ap R.adm, outH ob [], pt fb (fgC f (ma, ms.length, mc)) frT] _
  have hexp : ∀ i, i ≤ rows.length → (rows.take i).length = i := fun i hi => by simp; omega
  refine VC.block ?_
  refine VC.loop (σ := Nat) (fun i => [(0, .pointer (some ⟨p, 0, none⟩)), (9, .pointer (some ⟨ob, 0, none⟩)), (10, sendF ob), (138, .slice ga rows.length gc), (139, .int .i64 rows.length), (140, .int .i64 i)])
    (fun i => [r.h rdT, rdsH x.rp (sureR R f.index).rds, pt p (repCs R x) repT, slH memT 2 x.a R.ch.ms.length x.c (flat memC R.ch.ms), logH x.lp R.log, winH x.wp R.win, admH x.ap R.adm, outH ob ((rows.take i).map fun y => (32 + y.1.f.client, replyF y.1.f.client y.1.f.seq y.1.f.try_ y.1.r))])
    (fun i => i ≤ rows.length) (fun i => rows.length - i) 0
    (Nat.zero_le _) (Sub.cons rfl (Sub.cons rfl (Sub.cons rfl (Sub.cons rfl (Sub.cons rfl (Sub.cons rfl (Sub.nil _))))))) (Imp.pick 0 rfl (Imp.pick 0 rfl (Imp.pick 0 rfl (Imp.pick 0 rfl (Imp.pick 0 rfl (Imp.pick 0 rfl (Imp.pick 0 rfl (Imp.pick 0 rfl Imp.nil)))))))).ent ?_
  intro i hi
  (repeat (first|refine zS ?_|refine zR ?_|refine zB ?_|refine zL ?_|refine zC ?_|refine zG (zN ?_)|refine zG (zD 0 rfl rfl rfl rfl ?_)))
  refine VC.condP rfl (fun h1 => VC.skip ?_) (fun h1 => VC.exit ?_)
  · have hi2 : i < rows.length := by omega
    obtain ⟨g, hg⟩ : ∃ g, rows[i]? = some g := ⟨_, List.getElem?_eq_getElem hi2⟩
    have hgm : g.1 ∈ R.rds.l := by
      have h2 : g.1 ∈ rows.map Prod.fst := List.mem_map.2 ⟨g, List.mem_of_getElem? hg, rfl⟩
      rw [hrows] at h2
      exact (List.mem_filter.1 h2).1
    have hcg := ok.rcl g.1 hgm
    obtain ⟨gb, go, r1, r2, hrd⟩ := rok.ld (t := rdT) (hrx ▸ hg) rfl
    obtain rfl : ga = some ⟨gb, go, none⟩ := by rw [RL.v, r2, hrx] at hrv; injection hrv with e1; exact e1.symm
    (repeat (first|refine zS ?_|refine zR ?_|refine zB ?_|refine zL ?_|refine zC ?_|refine zG (zN ?_)|refine zG (zD 0 rfl rfl rfl rfl ?_)))
    refine VO.go (VO.light (light_idx i rfl rfl rfl rfl rfl rfl hi2) ?_)
    refine VO.go (VO.load rfl rfl ((hrd 0 rfl).1 _ rfl rfl) ?_)
    refine VO.go (VO.alloc rfl fun tb => ?_)
    refine VO.go (VO.stA (vs := rdC g) 0 rfl rfl rfl rfl (Nat.le_refl _) rfl rfl rfl ?_)
    (repeat (first|refine zS ?_|refine zR ?_|refine zB ?_|refine zL ?_|refine zC ?_|refine zG (zN ?_)|refine zG (zD 0 rfl rfl rfl rfl ?_)))
    refine VO.go (VO.ldA 0 (resC g.1.r) rfl rfl rfl rfl ?_)
    (repeat (first|refine zS ?_|refine zR ?_|refine zB ?_|refine zL ?_|refine zC ?_|refine zG (zN ?_)|refine zG (zD 0 rfl rfl rfl rfl ?_)))
    refine VO.go (VO.callAt 8 rfl (fun Fr w hF hs hS => reply_spec Fr w (by rw [List.length_map, hexp i (by omega)]; omega) g.1.f.client g.1.f.seq g.1.f.try_ hcg.1 (by omega) g.1.r) rfl (ψ := fun v H => v = .tuple #[] ∧ H = outH ob ((rows.take i).map (fun y => (32 + y.1.f.client, replyF y.1.f.client y.1.f.seq y.1.f.try_ y.1.r)) ++ [(32 + g.1.f.client, replyF g.1.f.client g.1.f.seq g.1.f.try_ g.1.r)])) (fun v L h => ⟨_, h.2, h.1, rfl⟩) ?_)
    rintro _ _ ⟨rfl, rfl⟩
    (repeat (first|refine zS ?_|refine zR ?_|refine zB ?_|refine zL ?_|refine zC ?_|refine zG (zN ?_)|refine zG (zD 0 rfl rfl rfl rfl ?_)))
    refine VO.go (VO.add rfl rfl (by omega) (by omega) ?_)
    (repeat (first|refine zS ?_|refine zR ?_|refine zB ?_|refine zL ?_|refine zC ?_|refine zG (zN ?_)|refine zG (zD 0 rfl rfl rfl rfl ?_)))
    refine ⟨i + 1, hi2, by dsimp only; omega, Sub.cons rfl (Sub.cons rfl (Sub.cons rfl (Sub.cons rfl (Sub.cons rfl (Sub.cons rfl (Sub.nil _)))))), ?_⟩
    dsimp only
    rw [List.take_add_one, hg, Option.toList_some, List.map_append, List.map_singleton]
    exact (Imp.pick 1 rfl (Imp.pick 1 rfl (Imp.pick 1 rfl (Imp.pick 1 rfl (Imp.pick 1 rfl (Imp.pick 1 rfl (Imp.pick 1 rfl (Imp.pick 1 rfl Imp.nil)))))))).ent
  obtain rfl : i = rows.length := by omega
  rw [List.take_length]
  have hes : (rows.map fun y => ((32 + y.1.f.client, replyF y.1.f.client y.1.f.seq y.1.f.try_ y.1.r) : SndM)) = sureS R f.index := by
    unfold sureS
    rw [← hrows, List.map_map]; rfl
  rw [hes]
  refine ⟨(), trivial, Sub.cons rfl (Sub.nil _), ?_⟩
  rw [hT]
  exact (Imp.rep (R := sureR R f.index) x (Imp.pick 2 rfl (Imp.pick 2 rfl (Imp.pick 2 rfl (Imp.pick 2 rfl (Imp.pick 2 rfl (Imp.pick 1 rfl (Imp.pick 1 rfl Imp.nil)))))))).ent
end
end Go.Proofs.YtbbnmgakmcppdaaGreat.Rep
namespace Go.Proofs.YtbbnmgakmcppdaaGreat.Rep
open Go Go.Proofs.YtbbnmgakmcppdaaGreat.Vg Go.Proofs.YtbbnmgakmcppdaaGreat.T Go.Proofs.YtbbnmgakmcppdaaGreat.Api Go.Proofs.YtbbnmgakmcppdaaGreat.Kv Go.Proofs.YtbbnmgakmcppdaaGreat.Ch Go.Proofs.YtbbnmgakmcppdaaGreat.Lg Go.Proofs.YtbbnmgakmcppdaaGreat.Rd Go.Proofs.YtbbnmgakmcppdaaGreat.Win Go.Proofs.YtbbnmgakmcppdaaGreat.Adm Go.Proofs.YtbbnmgakmcppdaaGreat.Sched Go.Proofs.YtbbnmgakmcppdaaGreat.Conf
set_option linter.unusedSimpArgs false
set_option linter.unusedVariables false
attribute [local irreducible] VO VC VA

theorem adm_served (Fr : Nat → Prop) (w : World) {p : Nat} {A : AdmM} (k : Int) (h : SatIn Fr [admH p A] w) : Tri Tryz.prog 128 [.pointer (some ⟨p, 0, none⟩), .int .i64 k] Fr w [] (fun v L => v = .int .i64 (A.sch.servedM k) ∧ L = []) := by
  obtain ⟨sp, h⟩ := AdmIn.of h
  have hb := h.at0
  have hsch := h.sch
  refine Tri.of 13 Tryz.func128 rfl (by kernel_rfl) tabOk rfl rfl ?_
  (repeat (first|refine zS ?_|refine zR ?_|refine zB ?_|refine zL ?_|refine zC ?_|refine zG (zN ?_)|refine zG (zD 0 rfl rfl rfl rfl ?_)))
  refine VO.go (VO.callV' (fun Fr w hF hs _ => Adm.none_spec Fr w (hb.of hF hs)) rfl (VO.go (VO.nil (VC.condF rfl (VC.skip ?_)))))
  (repeat (first|refine zS ?_|refine zR ?_|refine zB ?_|refine zL ?_|refine zC ?_|refine zG (zN ?_)|refine zG (zE rfl rfl (RdL.blk hb rfl) ?_)))
  refine VO.go (VO.callV' (fun Fr w hF hs _ => Sched.served_spec Fr w k (hsch.of hF hs)) rfl (VO.go (VO.nil ?_)))
  exact VC.ret (Ret.int 4 rfl rfl rfl Ent.refl ⟨rfl, rfl⟩)
section
variable {p : Nat} {R : RepM}
theorem whole_spec (Fr : Nat → Prop) (w : World) (h : SatIn Fr [repH p R] w) : Tri Tryz.prog 15 [.pointer (some ⟨p, 0, none⟩)] Fr w [] (fun v L => v = .bool R.whole ∧ L = []) := by
  obtain ⟨x, hx⟩ := RepIn.of' h
  have hb := hx.blk
  refine Tri.of 11 Tryz.func15 rfl (by kernel_rfl) tabOk rfl rfl ?_
  (repeat (first|refine zS ?_|refine zR ?_|refine zB ?_|refine zL ?_|refine zC ?_|refine zG (zN ?_)|refine zG (zD 0 rfl rfl rfl rfl ?_)))
  refine VO.go (VO.callV' (fun Fr w hF hs _ => made_spec Fr w (hb.of hF hs)) rfl ?_)
  (repeat (first|refine zS ?_|refine zR ?_|refine zB ?_|refine zL ?_|refine zC ?_|refine zG (zN ?_)|refine zG (zD 0 rfl rfl rfl rfl ?_)))
  refine VO.go (VO.yes 5 true rfl rfl ?_)
  (repeat (first|refine zS ?_|refine zR ?_|refine zB ?_|refine zL ?_|refine zC ?_|refine zG (zN ?_)|refine zG (zE rfl rfl (RdL.blk hb rfl) ?_)|refine zG (zU rfl rfl rfl ?_)))
  exact VC.ret (Ret.bool 2 rfl rfl rfl Ent.refl ⟨rfl, rfl⟩)
theorem rsince_spec (Fr : Nat → Prop) (w : World) (h : SatIn Fr [repH p R] w) : Tri Tryz.prog 16 [.pointer (some ⟨p, 0, none⟩)] Fr w [] (fun v L => v = .int .i64 R.since ∧ L = []) := by
  obtain ⟨x, hx⟩ := RepIn.of' h
  have hb := hx.blk
  refine Tri.of 10 Tryz.func16 rfl (by kernel_rfl) tabOk rfl rfl ?_
  (repeat (first|refine zS ?_|refine zR ?_|refine zB ?_|refine zL ?_|refine zC ?_|refine zG (zN ?_)|refine zG (zD 0 rfl rfl rfl rfl ?_)))
  refine VO.go (VO.callV' (fun Fr w hF hs _ => made_spec Fr w (hb.of hF hs)) rfl (VO.go (VO.nil (VC.condF rfl (VC.skip ?_)))))
  (repeat (first|refine zS ?_|refine zR ?_|refine zB ?_|refine zL ?_|refine zC ?_|refine zG (zN ?_)|refine zG (zE rfl rfl (RdL.blk hb rfl) ?_)))
  exact VC.ret (Ret.int 2 rfl rfl rfl Ent.refl ⟨rfl, rfl⟩)
theorem log_spec (Fr : Nat → Prop) (w : World) (ok : R.Ok) (h : SatIn Fr [repH p R] w) : Tri Tryz.prog 18 [.pointer (some ⟨p, 0, none⟩)] Fr w [] (fun v L => ∃ q, v = .pointer (some ⟨q, 0, none⟩) ∧ L = [logH q R.log]) := by
  obtain ⟨x, hx⟩ := RepIn.of' h
  have hb := hx.blk
  have hl := hx.log
  have h1 := ok.last; have h2 := ok.win.last1
  refine Tri.of 11 Tryz.func18 rfl (by kernel_rfl) tabOk rfl rfl ?_
  (repeat (first|refine zS ?_|refine zR ?_|refine zB ?_|refine zL ?_|refine zC ?_|refine zG (zN ?_)|refine zG (zD 0 rfl rfl rfl rfl ?_)))
  refine VO.go (VO.callV' (fun Fr w hF hs _ => made_spec Fr w (hb.of hF hs)) rfl (VO.go (VO.nil (VC.condF rfl (VC.skip ?_)))))
  (repeat (first|refine zS ?_|refine zR ?_|refine zB ?_|refine zL ?_|refine zC ?_|refine zG (zN ?_)|refine zG (zE rfl rfl (RdL.blk hb rfl) ?_)))
  refine VO.go (VO.call (Lc := []) (fun Fr w hF hs _ => Lg.copy_spec Fr w (hl.of hF hs) (by omega)) rfl rfl ?_)
  rintro _ _ ⟨q, rfl, rfl⟩
  (repeat (first|refine zS ?_|refine zR ?_|refine zB ?_|refine zL ?_|refine zC ?_|refine zG (zN ?_)|refine zG (zD 0 rfl rfl rfl rfl ?_)))
  exact VC.ret (Ret.tmp 2 rfl rfl Ent.refl ⟨q, rfl, rfl⟩)
theorem window_spec (Fr : Nat → Prop) (w : World) (ok : R.Ok) (h : SatIn Fr [repH p R] w) : Tri Tryz.prog 21 [.pointer (some ⟨p, 0, none⟩)] Fr w [] (fun v L => ∃ q, v = .pointer (some ⟨q, 0, none⟩) ∧ L = [winH q R.win]) := by
  obtain ⟨x, hx⟩ := RepIn.of' h
  have hb := hx.blk
  have hl := hx.win
  refine Tri.of 11 Tryz.func21 rfl (by kernel_rfl) tabOk rfl rfl ?_
  (repeat (first|refine zS ?_|refine zR ?_|refine zB ?_|refine zL ?_|refine zC ?_|refine zG (zN ?_)|refine zG (zD 0 rfl rfl rfl rfl ?_)))
  refine VO.go (VO.callV' (fun Fr w hF hs _ => made_spec Fr w (hb.of hF hs)) rfl (VO.go (VO.nil (VC.condF rfl (VC.skip ?_)))))
  (repeat (first|refine zS ?_|refine zR ?_|refine zB ?_|refine zL ?_|refine zC ?_|refine zG (zN ?_)|refine zG (zE rfl rfl (RdL.blk hb rfl) ?_)))
  refine VO.go (VO.call (Lc := []) (fun Fr w hF hs _ => Win.copy_spec Fr w (hl.of hF hs) ok.win.cap0) rfl rfl ?_)
  rintro _ _ ⟨q, rfl, rfl⟩
  (repeat (first|refine zS ?_|refine zR ?_|refine zB ?_|refine zL ?_|refine zC ?_|refine zG (zN ?_)|refine zG (zD 0 rfl rfl rfl rfl ?_)))
  exact VC.ret (Ret.tmp 2 rfl rfl Ent.refl ⟨q, rfl, rfl⟩)
theorem chain_spec (Fr : Nat → Prop) (w : World) (ok : R.Ok) (h : SatIn Fr [repH p R] w) : Tri Tryz.prog 37 [.pointer (some ⟨p, 0, none⟩)] Fr w [] (fun v L => ∃ a c, v = .agg (R.ch.cells a c).toArray ∧ L = [slH memT 2 a R.ch.ms.length c (flat memC R.ch.ms)]) := by
  obtain ⟨x, hx⟩ := RepIn.of' h
  have hb := hx.blk
  have hm := hx.mem
  have hl := ok.ch.len
  refine Tri.of 12 Tryz.func37 rfl (by kernel_rfl) tabOk rfl rfl ?_
  refine VC.seq (VC.region (VO.go (VO.alloc rfl fun d => ?_)))
  (repeat (first|refine zS ?_|refine zR ?_|refine zB ?_|refine zL ?_|refine zC ?_|refine zG (zN ?_)|refine zG (zD 0 rfl rfl rfl rfl ?_)))
  refine VO.go (VO.callV' (fun Fr w hF hs _ => made_spec Fr w (hb.of hF hs)) rfl (VO.go (VO.nil (VC.condF rfl (VC.skip ?_)))))
  (repeat (first|refine zS ?_|refine zR ?_|refine zB ?_|refine zL ?_|refine zC ?_|refine zG (zN ?_)|refine zG (zD 0 rfl rfl rfl rfl ?_)))
  refine VO.go (VO.load rfl rfl (RdL.blkA (ds := R.ch.cells x.a x.c) hb rfl) ?_)
  refine VO.go (VO.call (Lc := []) (fun Fr w hF hs _ => copied_spec Fr w (hm.of hF hs) (by omega)) rfl rfl ?_)
  rintro _ _ ⟨a', c', rfl, rfl⟩
  refine VO.go (VO.stA (vs := R.ch.cells a' c') (cs' := R.ch.cells a' c') 1 rfl rfl rfl rfl (Nat.le_refl _) rfl rfl rfl ?_)
  (repeat (first|refine zS ?_|refine zR ?_|refine zB ?_|refine zL ?_|refine zC ?_|refine zG (zN ?_)|refine zG (zD 0 rfl rfl rfl rfl ?_)))
  exact VC.ret (Ret.cell 2 rfl rfl rfl (RdL.many 1 rfl rfl) (Imp.pick 0 rfl Imp.nil).ent ⟨a', c', rfl, rfl⟩)
theorem reading_spec (Fr : Nat → Prop) (w : World) (ok : R.Ok) (h : SatIn Fr [repH p R] w) : Tri Tryz.prog 39 [.pointer (some ⟨p, 0, none⟩)] Fr w [] (fun v L => v = .int .i64 R.rds.l.length ∧ L = []) := by
  obtain ⟨x, hx⟩ := RepIn.of' h
  have hb := hx.blk
  have hl := hx.rds
  refine Tri.of 11 Tryz.func39 rfl (by kernel_rfl) tabOk rfl rfl ?_
  (repeat (first|refine zS ?_|refine zR ?_|refine zB ?_|refine zL ?_|refine zC ?_|refine zG (zN ?_)|refine zG (zD 0 rfl rfl rfl rfl ?_)))
  refine VO.go (VO.callV' (fun Fr w hF hs _ => made_spec Fr w (hb.of hF hs)) rfl (VO.go (VO.nil (VC.condF rfl (VC.skip ?_)))))
  (repeat (first|refine zS ?_|refine zR ?_|refine zB ?_|refine zL ?_|refine zC ?_|refine zG (zN ?_)|refine zG (zE rfl rfl (RdL.blk hb rfl) ?_)))
  refine VO.go (VO.callV' (fun Fr w hF hs _ => Rd.len_spec Fr w (hl.of hF hs) ok.rc0) rfl ?_)
  (repeat (first|refine zS ?_|refine zR ?_|refine zB ?_|refine zL ?_|refine zC ?_|refine zG (zN ?_)|refine zG (zD 0 rfl rfl rfl rfl ?_)))
  exact VC.ret (Ret.int 2 rfl rfl rfl Ent.refl ⟨rfl, rfl⟩)
theorem waiting_spec (Fr : Nat → Prop) (w : World) (h : SatIn Fr [repH p R] w) (k : Int) : Tri Tryz.prog 42 [.pointer (some ⟨p, 0, none⟩), .int .i64 k] Fr w [] (fun v L => v = .int .i64 (R.adm.sch.lenM k) ∧ L = []) := by
  obtain ⟨x, hx⟩ := RepIn.of' h
  have hb := hx.blk
  have hl := hx.adm
  refine Tri.of 14 Tryz.func42 rfl (by kernel_rfl) tabOk rfl rfl ?_
  (repeat (first|refine zS ?_|refine zR ?_|refine zB ?_|refine zL ?_|refine zC ?_|refine zG (zN ?_)|refine zG (zD 0 rfl rfl rfl rfl ?_)))
  refine VO.go (VO.callV' (fun Fr w hF hs _ => made_spec Fr w (hb.of hF hs)) rfl (VO.go (VO.nil (VC.condF rfl (VC.skip ?_)))))
  (repeat (first|refine zS ?_|refine zR ?_|refine zB ?_|refine zL ?_|refine zC ?_|refine zG (zN ?_)|refine zG (zE rfl rfl (RdL.blk hb rfl) ?_)))
  refine VO.go (VO.callV' (fun Fr w hF hs _ => Adm.len_spec Fr w k (hl.of hF hs)) rfl ?_)
  (repeat (first|refine zS ?_|refine zR ?_|refine zB ?_|refine zL ?_|refine zC ?_|refine zG (zN ?_)|refine zG (zD 0 rfl rfl rfl rfl ?_)))
  exact VC.ret (Ret.int 4 rfl rfl rfl Ent.refl ⟨rfl, rfl⟩)
theorem rserved_spec (Fr : Nat → Prop) (w : World) (h : SatIn Fr [repH p R] w) (k : Int) : Tri Tryz.prog 46 [.pointer (some ⟨p, 0, none⟩), .int .i64 k] Fr w [] (fun v L => v = .int .i64 (R.adm.sch.servedM k) ∧ L = []) := by
  obtain ⟨x, hx⟩ := RepIn.of' h
  have hb := hx.blk
  have hl := hx.adm
  refine Tri.of 14 Tryz.func46 rfl (by kernel_rfl) tabOk rfl rfl ?_
  (repeat (first|refine zS ?_|refine zR ?_|refine zB ?_|refine zL ?_|refine zC ?_|refine zG (zN ?_)|refine zG (zD 0 rfl rfl rfl rfl ?_)))
  refine VO.go (VO.callV' (fun Fr w hF hs _ => made_spec Fr w (hb.of hF hs)) rfl (VO.go (VO.nil (VC.condF rfl (VC.skip ?_)))))
  (repeat (first|refine zS ?_|refine zR ?_|refine zB ?_|refine zL ?_|refine zC ?_|refine zG (zN ?_)|refine zG (zE rfl rfl (RdL.blk hb rfl) ?_)))
  refine VO.go (VO.callV' (fun Fr w hF hs _ => adm_served Fr w k (hl.of hF hs)) rfl ?_)
  (repeat (first|refine zS ?_|refine zR ?_|refine zB ?_|refine zL ?_|refine zC ?_|refine zG (zN ?_)|refine zG (zD 0 rfl rfl rfl rfl ?_)))
  exact VC.ret (Ret.int 4 rfl rfl rfl Ent.refl ⟨rfl, rfl⟩)
def drainedF (epoch : Int) : FrameM := { FrameM.zero with kind := 12, epoch := epoch }
def tick1 (R : RepM) : RepM := if R.linked then { R with win := { R.win with sent := min (max R.have_ 0) R.win.last } } else R
def tickR (R : RepM) : RepM × List SndM := (tick1 R, R.masterM ++ R.greetM ++ R.baseM ++ (if (!R.rds.l.isEmpty) = true then [(16, confirmF R.ch.epoch R.rds.lastI)] else []) ++ (if R.drainsB = true ∧ R.win.done = R.win.last then [(16, drainedF R.ch.epoch)] else []))
theorem tick1_ok {R : RepM} (h : R.Ok) : (tick1 R).Ok := by
  unfold tick1
  split
  · have hw := h.win
    refine ⟨h.ch, ⟨hw.cap0, hw.cap1, hw.done0, hw.done1, hw.last1, ?_, ?_, hw.lim0, hw.lim1⟩, h.last, h.logc, h.logi, h.rc0, h.rc1, h.rl, h.rn0, h.rn1, h.rcl, h.calls, h.wf⟩
    · show 0 ≤ min (max R.have_ 0) R.win.last
      have := hw.done0; have := hw.done1; omega
    · show min (max R.have_ 0) R.win.last ≤ R.win.last; omega
  · exact h
theorem tick_stays (R : RepM) : Stays R (tickR R).1 := by
  show Stays R (tick1 R)
  unfold tick1; split <;> exact ⟨rfl, rfl, rfl, rfl, rfl⟩
theorem tickR_fit {R : RepM} (h : R.Fit) : (tickR R).1.Fit := h.stays (tick_stays R) (tick1_ok h.ok)
set_option maxRecDepth 100000 in
set_option maxHeartbeats 4000000 in
theorem tick_spec (Fr : Nat → Prop) (w : World) (ok : R.Ok) (now : Int) : Tri Tryz.prog 28 [.pointer (some ⟨p, 0, none⟩), .int .i64 now] Fr w [repH p R]
    (fun v L => sent (tickR R).2 v L [repH p (tickR R).1]) := by
  have hrl : R.rds.l.length ≤ 16 := by have := ok.rl; have := ok.rc1; omega
  have gl : R.greetM.length ≤ 1 := by unfold RepM.greetM; split <;> simp
  have bl : R.baseM.length ≤ 1 := by unfold RepM.baseM; split <;> simp
  have ml : R.masterM.length = 1 := rfl
  refine Tri.of 78 Tryz.func28 rfl (by kernel_rfl) tabOk rfl rfl ?_
  refine VC.opn 0 rfl (HOpn.rep p R) ?_
  rintro x -
  show VC _ _ _ [pt p (repCs R x) repT, slH memT 2 x.a R.ch.ms.length x.c (flat memC R.ch.ms), logH x.lp R.log, winH x.wp R.win, admH x.ap R.adm, rdsH x.rp R.rds] _
  (repeat (first|refine zS ?_|refine zR ?_|refine zB ?_|refine zL ?_|refine zC ?_|refine zG (zN ?_)|refine zG (zD 0 rfl rfl rfl rfl ?_)))
  refine VO.go (VO.callV' (fun Fr w hF hs hS => made_spec Fr w (hS.blk 0 rfl)) rfl ?_)
  (repeat (first|refine zS ?_|refine zR ?_|refine zB ?_|refine zL ?_|refine zC ?_|refine zG (zN ?_)|refine zG (zD 0 rfl rfl rfl rfl ?_)))
  refine VC.condF rfl (VC.skip ?_)
  (repeat (first|refine zS ?_|refine zR ?_|refine zB ?_|refine zL ?_|refine zC ?_|refine zG (zN ?_)|refine zG (zD 0 rfl rfl rfl rfl ?_)))
  refine VO.go (VO.alloc rfl fun ob => ?_)
  (repeat (first|refine zS ?_|refine zR ?_|refine zB ?_|refine zL ?_|refine zC ?_|refine zG (zN ?_)|refine zG (zD 0 rfl rfl rfl rfl ?_)))
  refine VO.go (VO.light (light_makeFunc (u := [.pointer (some ⟨ob, 0, none⟩)]) (v := []) rfl rfl) ?_)
  (repeat (first|refine zS ?_|refine zR ?_|refine zB ?_|refine zL ?_|refine zC ?_|refine zG (zN ?_)|refine zG (zD 0 rfl rfl rfl rfl ?_)))
  refine VO.ent (L' := repO p R x ob []) (Imp.pick 1 rfl (Imp.pick 1 rfl (Imp.pick 1 rfl (Imp.pick 1 rfl (Imp.pick 1 rfl (Imp.pick 1 rfl (Imp.out (none, 0) (Imp.pick 0 rfl (Imp.slNil Imp.nil))))))))).ent ?_
  unfold repO
  refine VO.go (VO.callAt 6 rfl (fun Fr w hF hs hS => tellMaster_spec Fr w (hS.blk 0 rfl) (by show 0 ≤ 1000000; omega)) rfl (ψ := fun v H => v = .tuple #[] ∧ H = outH ob ([] ++ R.masterM)) (fun v L h => ⟨_, h.2, h.1, rfl⟩) ?_)
  rintro _ _ ⟨rfl, rfl⟩
  (repeat (first|refine zS ?_|refine zR ?_|refine zB ?_|refine zL ?_|refine zC ?_|refine zG (zN ?_)|refine zG (zD 0 rfl rfl rfl rfl ?_)))
  refine VO.go (VO.callAt 6 rfl (fun Fr w hF hs hS => greet_spec Fr w (RepIn.pcs hS 0 rfl rfl rfl rfl rfl rfl) ok.ch ok.win (by rw [List.nil_append]; omega)) rfl (ψ := fun v H => v = .tuple #[] ∧ H = outH ob (R.masterM ++ R.greetM)) (fun v L h => ⟨_, h.2, h.1, rfl⟩) ?_)
  rintro _ _ ⟨rfl, rfl⟩
  (repeat (first|refine zS ?_|refine zR ?_|refine zB ?_|refine zL ?_|refine zC ?_|refine zG (zN ?_)|refine zG (zD 0 rfl rfl rfl rfl ?_)))
  refine VO.go (VO.callAt 6 rfl (fun Fr w hF hs hS => tellBase_spec Fr w (RepIn.pcs hS 0 rfl rfl rfl rfl rfl rfl) ok.ch (by rw [List.length_append]; omega)) rfl (ψ := fun v H => v = .tuple #[] ∧ H = outH ob (R.masterM ++ R.greetM ++ R.baseM)) (fun v L h => ⟨_, h.2, h.1, rfl⟩) ?_)
  rintro _ _ ⟨rfl, rfl⟩
  generalize hS1 : R.masterM ++ R.greetM ++ R.baseM = S1
  have hS1l : S1.length ≤ 3 := by rw [← hS1, List.length_append, List.length_append]; omega
  refine VO.go (VO.nil ?_)
  show VC _ _ _ (repO p R x ob S1) _
  have R2e : ∀ (y : RepS) (S : List SndM), repO p (tick1 R) y ob S = [pt p (repCs (tick1 R) y) repT, slH memT 2 y.a (tick1 R).ch.ms.length y.c (flat memC (tick1 R).ch.ms), logH y.lp (tick1 R).log, winH y.wp (tick1 R).win, admH y.ap (tick1 R).adm, rdsH y.rp (tick1 R).rds, outH ob S] := fun _ _ => rfl
  refine VC.seq ?_
  refine VC.meetS (σ := Unit) (fun _ => [(0, .pointer (some ⟨p, 0, none⟩)), (5, .pointer (some ⟨ob, 0, none⟩)), (6, sendF ob)]) (fun _ => repO p (tick1 R) x ob S1) (fun _ => True) ?_ ?_
  · unfold repO
    (repeat (first|refine zS ?_|refine zR ?_|refine zB ?_|refine zL ?_|refine zC ?_|refine zG (zN ?_)|refine zG (zD 0 rfl rfl rfl rfl ?_)))
    refine VC.cond rfl (fun h1 => ?_) (fun h1 => VC.skip ?_)
    · have e : tick1 R = { R with win := { R.win with sent := min (max R.have_ 0) R.win.last } } := by rw [tick1, if_pos h1]
      refine VC.draw (ts 0 8 (.only 8 .nil)) (by kernel_rfl) (by decide +kernel) ?_
      (repeat (first|refine yG (yN ?_)|refine yG (yD 0 rfl rfl rfl rfl rfl ?_)))
      refine VA.go (VA.callAt 3 rfl (fun Fr w hF hs hS => Win.back_spec Fr w ok.win R.have_) rfl rfl (ψ := fun v H => v = .tuple #[] ∧ H = winH x.wp { R.win with sent := min (max R.have_ 0) R.win.last }) (fun v L h => ⟨_, h.2, h.1, rfl⟩) ?_ ?_)
      · rintro _ _ ⟨rfl, rfl⟩
        exact (by (try refine Pd.st ?_);(repeat (first|exact Pd.nil|exact Pd.fnil|refine Pd.inner ?_|refine Pd.skip (by decide +kernel) ?_|refine zf (zo 0 rfl rfl) ?_|refine zf (zm 0 rfl rfl) ?_|refine zc (zo 0 rfl rfl) ?_|refine zc (zm 0 rfl rfl) ?_)))
      rintro _ _ ⟨rfl, rfl⟩
      (repeat (first|refine yG (yN ?_)|refine yG (yD 0 rfl rfl rfl rfl rfl ?_)))
      refine ⟨(), trivial, Sub.cons rfl (Sub.cons rfl (Sub.cons rfl (Sub.nil _))), ?_⟩
      rw [e]; exact Ent.refl
    · have e : tick1 R = R := by rw [tick1, if_neg (by rw [h1]; simp)]
      refine ⟨(), trivial, Sub.cons rfl (Sub.cons rfl (Sub.cons rfl (Sub.nil _))), ?_⟩
      rw [e]; exact Ent.refl
  rintro _ -
  have et : (tick1 R).rds = R.rds ∧ (tick1 R).ch = R.ch ∧ (tick1 R).drainsB = R.drainsB ∧ (tick1 R).win.done = R.win.done ∧ (tick1 R).win.last = R.win.last := by unfold tick1; split <;> exact ⟨rfl, rfl, rfl, rfl, rfl⟩
  have okt := tick1_ok ok
  have htk : tickR R = (tick1 R, S1 ++ (if (!(tick1 R).rds.l.isEmpty) = true then [(16, confirmF (tick1 R).ch.epoch (tick1 R).rds.lastI)] else []) ++ (if (tick1 R).drainsB = true ∧ (tick1 R).win.done = (tick1 R).win.last then [(16, drainedF (tick1 R).ch.epoch)] else [])) := by
    rw [et.1, et.2.1, et.2.2.1, et.2.2.2.1, et.2.2.2.2, ← hS1]; rfl
  rw [htk]
  have hrt : (tick1 R).rds.l.length ≤ 16 := by rw [et.1]; exact hrl
  generalize tick1 R = Q at *
  refine VC.seq ?_
  refine VC.meetS (σ := Unit) (fun _ => [(0, .pointer (some ⟨p, 0, none⟩)), (5, .pointer (some ⟨ob, 0, none⟩)), (6, sendF ob)]) (fun _ => repO p Q x ob (S1 ++ (if (!Q.rds.l.isEmpty) = true then [(16, confirmF Q.ch.epoch Q.rds.lastI)] else []))) (fun _ => True) ?_ ?_
  · unfold repO
    (repeat (first|refine zS ?_|refine zR ?_|refine zB ?_|refine zL ?_|refine zC ?_|refine zG (zN ?_)|refine zG (zD 0 rfl rfl rfl rfl ?_)))
    refine VO.go (VO.callV' (fun Fr w hF hs hS => Rd.last_spec Fr w (hS.at_ 5 rfl) okt.rc0 (by omega)) rfl ?_)
    (repeat (first|refine zS ?_|refine zR ?_|refine zB ?_|refine zL ?_|refine zC ?_|refine zG (zN ?_)|refine zG (zD 0 rfl rfl rfl rfl ?_)))
    refine VC.cond rfl (fun h1 => ?_) (fun h1 => VC.skip ?_)
    · (repeat (first|refine zS ?_|refine zR ?_|refine zB ?_|refine zL ?_|refine zC ?_|refine zG (zN ?_)|refine zG (zD 0 rfl rfl rfl rfl ?_)))
      refine VO.go (VO.light (light_build (pv := [(0, .int .i64 9), (1, .int .i64 Q.ch.epoch), (12, .int .i64 Q.rds.lastI)]) (fgC (confirmF Q.ch.epoch Q.rds.lastI) mem0) rfl rfl rfl (by kernel_rfl) rfl) ?_)
      refine VO.go (VO.callFAt 6 rfl rfl (fun Fr w hF hs _ => add_spec Fr w ob S1 (by omega) 16 (confirmF Q.ch.epoch Q.rds.lastI)) rfl (ψ := fun v H => v = .tuple #[] ∧ H = outH ob (S1 ++ [(16, confirmF Q.ch.epoch Q.rds.lastI)])) (fun v L h => ⟨_, h.2, h.1, rfl⟩) ?_)
      rintro _ _ ⟨rfl, rfl⟩
      (repeat (first|refine zS ?_|refine zR ?_|refine zB ?_|refine zL ?_|refine zC ?_|refine zG (zN ?_)|refine zG (zD 0 rfl rfl rfl rfl ?_)))
      refine ⟨(), trivial, Sub.cons rfl (Sub.cons rfl (Sub.cons rfl (Sub.nil _))), ?_⟩
      rw [if_pos h1]; exact Ent.refl
    · refine ⟨(), trivial, Sub.cons rfl (Sub.cons rfl (Sub.cons rfl (Sub.nil _))), ?_⟩
      rw [if_neg (by rw [h1]; simp), List.append_nil]; exact Ent.refl
  rintro _ -
  generalize hS2 : S1 ++ (if (!Q.rds.l.isEmpty) = true then [(16, confirmF Q.ch.epoch Q.rds.lastI)] else []) = S2
  have hS2l : S2.length ≤ 4 := by rw [← hS2, List.length_append]; split <;> simp <;> omega
  refine VC.seq ?_
  refine VC.meetS (σ := Unit) (fun _ => [(5, .pointer (some ⟨ob, 0, none⟩))]) (fun _ => [repH p Q, outH ob (S2 ++ (if Q.drainsB = true ∧ Q.win.done = Q.win.last then [(16, drainedF Q.ch.epoch)] else []))]) (fun _ => True) ?_ ?_
  · unfold repO
    have no : ¬ (Q.drainsB = true ∧ Q.win.done = Q.win.last) → ∀ {X : Cx}, Ent X (repO p Q x ob S2) [repH p Q, outH ob (S2 ++ (if Q.drainsB = true ∧ Q.win.done = Q.win.last then [(16, drainedF Q.ch.epoch)] else []))] := fun h {X} => by
      rw [if_neg h, List.append_nil]; exact repO_shut.ent
    refine VC.seq ?_
    refine VC.draw (ts 0 1 (.only 1 (ts 2 5 (ts 8 4 (.only 7 (.only 12 (ts 13 2 .nil))))))) (by kernel_rfl) (by decide +kernel) ?_
    (repeat (first|refine yG (yN ?_)|refine yG (yD 0 rfl rfl rfl rfl rfl ?_)))
    refine VA.go (VA.callR (fun Fr w hF hs hS => drains_spec Fr w (hS.blk 0 rfl)) rfl rfl (by (try refine Pd.st ?_);(repeat (first|exact Pd.nil|exact Pd.fnil|refine Pd.inner ?_|refine Pd.skip (by decide +kernel) ?_|refine zf (zo 0 rfl rfl) ?_|refine zf (zm 0 rfl rfl) ?_|refine zc (zo 0 rfl rfl) ?_|refine zc (zm 0 rfl rfl) ?_))) ?_)
    (repeat (first|refine yG (yN ?_)|refine yG (yD 0 rfl rfl rfl rfl rfl ?_)))
    by_cases h1 : Q.drainsB = true
    rotate_left
    · have h1' : Q.drainsB = false := by simpa using h1
      refine VA.go (VA.yes 55 false rfl h1' ?_)
      (repeat (first|refine yG (yN ?_)|refine yG (yD 0 rfl rfl rfl rfl rfl ?_)|refine yG (yU rfl rfl rfl rfl ?_)))
      refine VA.go (VA.offO rfl rfl ?_)
      (repeat (first|refine yG (yN ?_)|refine yG (yD 0 rfl rfl rfl rfl rfl ?_)|refine yG (yU rfl rfl rfl rfl ?_)))
      refine VA.go (VA.offO rfl rfl ?_)
      (repeat (first|refine yG (yN ?_)|refine yG (yD 0 rfl rfl rfl rfl rfl ?_)|refine yG (yU rfl rfl rfl rfl ?_)))
      refine VC.condF rfl (VC.skip ?_)
      exact ⟨(), trivial, Sub.cons rfl (Sub.nil _), no (fun h => h1 h.1)⟩
    refine VA.go (VA.yes 55 true rfl h1 ?_)
    (repeat (first|refine yG (yN ?_)|refine yG (yD 0 rfl rfl rfl rfl rfl ?_)|refine yG (yU rfl rfl rfl rfl ?_)))
    refine VA.go (VA.callR (fun Fr w hF hs hS => Win.done_spec Fr w (hS.blk 3 rfl) okt.win.cap0) rfl rfl (by (try refine Pd.st ?_);(repeat (first|exact Pd.nil|exact Pd.fnil|refine Pd.inner ?_|refine Pd.skip (by decide +kernel) ?_|refine zf (zo 0 rfl rfl) ?_|refine zf (zm 0 rfl rfl) ?_|refine zc (zo 0 rfl rfl) ?_|refine zc (zm 0 rfl rfl) ?_))) ?_)
    (repeat (first|refine yG (yN ?_)|refine yG (yD 0 rfl rfl rfl rfl rfl ?_)|refine yG (yU rfl rfl rfl rfl ?_)))
    refine VA.go (VA.callR (fun Fr w hF hs hS => Win.last_spec Fr w (hS.blk 3 rfl) okt.win.cap0) rfl rfl (by (try refine Pd.st ?_);(repeat (first|exact Pd.nil|exact Pd.fnil|refine Pd.inner ?_|refine Pd.skip (by decide +kernel) ?_|refine zf (zo 0 rfl rfl) ?_|refine zf (zm 0 rfl rfl) ?_|refine zc (zo 0 rfl rfl) ?_|refine zc (zm 0 rfl rfl) ?_))) ?_)
    (repeat (first|refine yG (yN ?_)|refine yG (yD 0 rfl rfl rfl rfl rfl ?_)|refine yG (yU rfl rfl rfl rfl ?_)))
    refine VC.condE (i := Q.win.done) (j := Q.win.last) rfl (fun h2 => ?_) (fun h2 => VC.skip ?_)
    · (repeat (first|refine zS ?_|refine zR ?_|refine zB ?_|refine zL ?_|refine zC ?_|refine zG (zN ?_)|refine zG (zD 0 rfl rfl rfl rfl ?_)))
      refine VO.go (VO.light (light_build (pv := [(0, .int .i64 12), (1, .int .i64 Q.ch.epoch)]) (fgC (drainedF Q.ch.epoch) mem0) rfl rfl rfl (by kernel_rfl) rfl) ?_)
      refine VO.go (VO.callFAt 6 rfl rfl (fun Fr w hF hs _ => add_spec Fr w ob S2 (by omega) 16 (drainedF Q.ch.epoch)) rfl (ψ := fun v H => v = .tuple #[] ∧ H = outH ob (S2 ++ [(16, drainedF Q.ch.epoch)])) (fun v L h => ⟨_, h.2, h.1, rfl⟩) ?_)
      rintro _ _ ⟨rfl, rfl⟩
      (repeat (first|refine zS ?_|refine zR ?_|refine zB ?_|refine zL ?_|refine zC ?_|refine zG (zN ?_)|refine zG (zD 0 rfl rfl rfl rfl ?_)))
      refine ⟨(), trivial, Sub.cons rfl (Sub.nil _), ?_⟩
      rw [if_pos ⟨h1, h2⟩]; exact (repO_shut (x := x)).ent
    · exact ⟨(), trivial, Sub.cons rfl (Sub.nil _), no (fun h => h2 h.2)⟩
  rintro _ -
  refine VC.opn 1 rfl (HOpn.out ob _) ?_
  rintro ⟨a, c⟩ -
  (repeat (first|refine zS ?_|refine zR ?_|refine zB ?_|refine zL ?_|refine zC ?_|refine zG (zN ?_)|refine zG (zD 0 rfl rfl rfl rfl ?_)))
  exact VC.ret (Ret.tmp 4 rfl rfl (Imp.pick 2 rfl (Imp.pick 1 rfl Imp.nil)).ent ⟨a, c, rfl, rfl⟩)
end
end Go.Proofs.YtbbnmgakmcppdaaGreat.Rep
namespace Go.Proofs.YtbbnmgakmcppdaaGreat.Rep
open Go Go.Proofs.YtbbnmgakmcppdaaGreat.Vg Go.Proofs.YtbbnmgakmcppdaaGreat.T Go.Proofs.YtbbnmgakmcppdaaGreat.Api Go.Proofs.YtbbnmgakmcppdaaGreat.Kv Go.Proofs.YtbbnmgakmcppdaaGreat.Ch Go.Proofs.YtbbnmgakmcppdaaGreat.Lg Go.Proofs.YtbbnmgakmcppdaaGreat.Rd Go.Proofs.YtbbnmgakmcppdaaGreat.Win Go.Proofs.YtbbnmgakmcppdaaGreat.Adm Go.Proofs.YtbbnmgakmcppdaaGreat.Sched Go.Proofs.YtbbnmgakmcppdaaGreat.Conf
set_option linter.unusedSimpArgs false
set_option linter.unusedVariables false
attribute [local irreducible] VO VC VA

def putM (client seq try_ epoch : Int) : FrameM := { FrameM.zero with kind := 1, epoch := epoch, client := client, seq := seq, try_ := try_, deadline := 9, op := ⟨2, ⟨#[107]⟩, ⟨#[118]⟩, 0⟩ }
set_option maxRecDepth 100000 in
theorem put_spec (Fr : Nat → Prop) (w : World) (c s t e : Int) : Tri Tryz.prog 43 [.int .i64 c, .int .i64 s, .int .i64 t, .int .i64 e] Fr w [] (fun v L => v = .agg (fgC (putM c s t e) mem0).toArray ∧ L = []) := by
  refine Tri.of 15 Tryz.func43 rfl (by kernel_rfl) tabOk rfl rfl ?_
  refine VC.seq (VC.region (VO.go (VO.alloc rfl fun b => VO.go (VO.nil ?_))))
  refine VC.seq (VC.region ?_)
  refine VO.go (VO.light (light_build (pv := [(0, .int .i64 2), (1, .string ⟨#[107]⟩), (2, .string ⟨#[118]⟩)]) (putM c s t e).op.cells rfl rfl rfl rfl rfl) ?_)
  refine VO.go (VO.light (light_build (pv := [(0, .int .i64 1), (1, .int .i64 e), (2, .int .i64 c), (3, .int .i64 s), (4, .int .i64 t), (6, .int .i64 9), (7, .agg (putM c s t e).op.cells.toArray)]) (fgC (putM c s t e) mem0) rfl rfl rfl (by kernel_rfl) rfl) ?_)
  refine VO.go (VO.stA (vs := fgC (putM c s t e) mem0) (cs' := fgC (putM c s t e) mem0) 0 rfl rfl rfl rfl (Nat.le_refl _) rfl rfl rfl (VO.go (VO.nil ?_)))
  exact VC.ret (Ret.cell 8 rfl rfl rfl (RdL.many 0 rfl rfl) Imp.nil.ent ⟨rfl, rfl⟩)
def toB (S : List SndM) (whom kind : Int) : Bool := match S with
  | [x] => x.1 == whom && x.2.kind == kind
  | _ => false
set_option maxRecDepth 100000 in
theorem to_spec (Fr : Nat → Prop) (w : World) {a : Option Addr} {c : Nat} {S : List SndM} (h : RwIn sndC 30 Fr w a S) (hS : S.length ≤ 1000000) (whom kind : Int) : Tri Tryz.prog 47 [.slice a S.length c, .int .i64 whom, .int .i64 kind] Fr w []
    (fun v L => v = .bool (toB S whom kind) ∧ L = []) := by
  refine Tri.of 27 Tryz.func47 rfl (by kernel_rfl) tabOk rfl rfl ?_
  (repeat (first|refine zS ?_|refine zR ?_|refine zB ?_|refine zL ?_|refine zC ?_|refine zG (zN ?_)|refine zG (zD 0 rfl rfl rfl rfl ?_)))
  by_cases h1 : S.length = 1
  rotate_left
  · refine VO.go (VO.yes 10 false rfl (by rw [beq_eq_false_iff_ne]; omega) ?_)
    (repeat (first|refine zS ?_|refine zR ?_|refine zB ?_|refine zL ?_|refine zC ?_|refine zG (zN ?_)|refine zG (zD 0 rfl rfl rfl rfl ?_)|refine zG (zU rfl rfl rfl ?_)))
    refine VO.go (VO.yes 18 false rfl rfl ?_)
    (repeat (first|refine zS ?_|refine zR ?_|refine zB ?_|refine zL ?_|refine zC ?_|refine zG (zN ?_)|refine zG (zD 0 rfl rfl rfl rfl ?_)|refine zG (zU rfl rfl rfl ?_)))
    refine VC.ret (Ret.bool 6 rfl rfl ?_ Ent.refl ⟨rfl, rfl⟩)
    cases S with
    | nil => rfl
    | cons x l => cases l with
      | nil => exact absurd rfl h1
      | cons y l => rfl
  obtain ⟨x, rfl⟩ : ∃ x, S = [x] := List.length_eq_one_iff.1 h1
  obtain ⟨mb, mo, hma, ra, rc⟩ := RwIn.rd (X := ⟨Tryz.prog, tab, tabOk, 27, Fr, w⟩) h (i := 0) (x := x) rfl
  subst hma
  refine VO.go (VO.yes 10 true rfl rfl ?_)
  (repeat (first|refine zS ?_|refine zR ?_|refine zB ?_|refine zL ?_|refine zC ?_|refine zG (zN ?_)|refine zG (zD 0 rfl rfl rfl rfl ?_)))
  refine VO.go (VO.light (light_idx 0 rfl rfl rfl rfl rfl (by omega) (by show 0 < 1; omega)) ?_)
  (repeat (first|refine zS ?_|refine zR ?_|refine zB ?_|refine zL ?_|refine zC ?_|refine zG (zN ?_)|refine zG (zD 0 rfl rfl rfl rfl ?_)))
  refine VO.go (VO.load rfl rfl (rc _ _ 0 _ rfl rfl) ?_)
  (repeat (first|refine zS ?_|refine zR ?_|refine zB ?_|refine zL ?_|refine zC ?_|refine zG (zN ?_)|refine zG (zD 0 rfl rfl rfl rfl ?_)))
  cases h2 : (x.1 == whom) with
  | false =>
    refine VO.go (VO.yes 18 false rfl h2 ?_)
    (repeat (first|refine zS ?_|refine zR ?_|refine zB ?_|refine zL ?_|refine zC ?_|refine zG (zN ?_)|refine zG (zD 0 rfl rfl rfl rfl ?_)|refine zG (zU rfl rfl rfl ?_)))
    exact VC.ret (Ret.bool 6 rfl rfl (by rw [toB, h2]; rfl) Ent.refl ⟨rfl, rfl⟩)
  | true =>
    refine VO.go (VO.yes 18 true rfl h2 ?_)
    (repeat (first|refine zS ?_|refine zR ?_|refine zB ?_|refine zL ?_|refine zC ?_|refine zG (zN ?_)|refine zG (zD 0 rfl rfl rfl rfl ?_)|refine zG (zU rfl rfl rfl ?_)))
    refine VO.go (VO.light (light_idx 0 rfl rfl rfl rfl rfl (by omega) (by show 0 < 1; omega)) ?_)
    (repeat (first|refine zS ?_|refine zR ?_|refine zB ?_|refine zL ?_|refine zC ?_|refine zG (zN ?_)|refine zG (zD 0 rfl rfl rfl rfl ?_)|refine zG (zU rfl rfl rfl ?_)))
    refine VO.go (VO.load rfl rfl (rc _ _ 1 _ rfl rfl) ?_)
    (repeat (first|refine zS ?_|refine zR ?_|refine zB ?_|refine zL ?_|refine zC ?_|refine zG (zN ?_)|refine zG (zD 0 rfl rfl rfl rfl ?_)|refine zG (zU rfl rfl rfl ?_)))
    exact VC.ret (Ret.bool 6 rfl rfl (by rw [toB, h2]; rfl) Ent.refl ⟨rfl, rfl⟩)
theorem take0_spec (Fr : Nat → Prop) (w : World) {p : Nat} {R : RepM} (fit : R.Fit) (hlast : R.rds.last < 100000000) (from_ : Int) (f : FrameM) (now : Int) (hi1 : -9223372036854775808 ≤ f.entry.index) (hi2 : f.entry.index ≤ 9223372036854775807) :
    Tri Tryz.prog 17 [.pointer (some ⟨p, 0, none⟩), .int .i64 from_, .agg (fgC f mem0).toArray, .int .i64 now] Fr w [repH p R] (fun v L => sent (takeR R from_ f [] now).2 v L [repH p (takeR R from_ f [] now).1]) :=
  take_spec Fr w fit hlast from_ f (ma := none) (mc := 0) (ms := []) RwIn.nil (by decide) (fun _ => rfl) now hi1 hi2

/-- A slice of one row, opened. -/
theorem HOpn.one {α : Type} {c : α → List Value} {n : Nat} (el : Nat) (a : Option Addr) (cap : Nat) (x : α) : HOpn (ι := Nat × List Value) (slH el n a [x].length cap (flat c [x])) (fun y => a = some ⟨y.1, 0, none⟩) (fun y => [pt y.1 (c x ++ y.2) el]) := by
  intro w ids h hn
  obtain ⟨y, hy, ids', h1, h2, h3⟩ := HOpn.sl el n a 1 cap (flat c [x]) w ids h hn
  cases y with
  | none => obtain ⟨_, _, _, h, _⟩ := hy; cases h
  | some y =>
    obtain ⟨b, rest⟩ := y
    obtain ⟨_, _, h7, _⟩ := hy
    refine ⟨(b, rest), h7, ids', ?_, h2, h3⟩
    simp only [flat_cons, flat_nil, List.append_nil] at h1
    exact h1
theorem rw_one {α : Type} {c : α → List Value} {n : Nat} (hc : ∀ x, (c x).length = n) {Fr : Nat → Prop} {w : World} {b : Nat} {x : α} {rest : List Value} (h : Blk Fr w b (c x ++ rest)) : RwIn c n Fr w (some ⟨b, 0, none⟩) [x] :=
  RwIn.blk h fun i y hy => by
    cases i with
    | zero =>
      simp only [List.getElem?_cons_zero, Option.some.injEq] at hy
      subst hy
      rw [Nat.zero_mul, Nat.add_zero, List.drop_zero, List.take_append_of_le_length (by rw [hc]; exact Nat.le_refl _), List.take_of_length_le (by rw [hc]; exact Nat.le_refl _)]
    | succ i => simp at hy
/-! ### The chapter's head -/
def ldC : ConfM := ⟨2, 2, 0, [], 0, 4, 0, 0, 0, 0, 0, 0⟩
def ldR : RepM := newR (fitM ldC) 0 false
def ldG : FrameM := { FrameM.zero with kind := 5, epoch := 1, grant := 4 }
def ldK : FrameM := { FrameM.zero with kind := 5, epoch := 1, index := 1, grant := 5, have_ := 1 }
def ldQ : FrameM := { putM 0 2 1 1 with op := ⟨1, ⟨#[107]⟩, ⟨#[]⟩, 0⟩ }
def ld1 : RepM × List SndM := takeR ldR 32 (putM 0 1 1 1) [] 0
def ld2 : RepM × List SndM := stepR ld1.1 0
def ld3 : RepM × List SndM := takeR ld2.1 1 ldG [] 0
def ldA : RepM × List SndM := stepR ld3.1 0
def ldB : RepM × List SndM := takeR ldA.1 32 (putM 0 1 2 1) [] 0
def ldD : RepM × List SndM := takeR ldB.1 1 ldK [] 0
def ldE : RepM × List SndM := takeR ldD.1 32 (putM 0 1 3 1) [] 0
def ldH : RepM × List SndM := takeR ldE.1 32 ldQ [] 0
theorem ld_ok : newOkB (fitM ldC) 0 ∧ ldR.whole = true ∧ ld1.2.length = 0 ∧ ld2.2.length = 0 ∧ ld3.2.length = 0 ∧ ldD.2.length = 0 := by decide +kernel
theorem ld_to : toB ldA.2 1 4 = true ∧ toB ldB.2 32 3 = true ∧ toB ldE.2 32 2 = true ∧ toB ldH.2 32 3 = true := by decide +kernel
theorem ld_get : (ldA.2.getD 0 (0, FrameM.zero)).2.entry.index = 1 ∧ (ldB.2.getD 0 (0, FrameM.zero)).2.reason = 6 ∧ (ldE.2.getD 0 (0, FrameM.zero)).2.res.version = 1 ∧ (ldH.2.getD 0 (0, FrameM.zero)).2.reason = 4 := by decide +kernel
theorem ld_last : ldR.rds.last = 0 ∧ ld2.1.rds.last = 0 ∧ ldA.1.rds.last = 0 ∧ ldB.1.rds.last = 0 ∧ ldD.1.rds.last = 0 ∧ ldE.1.rds.last = 0 := by decide +kernel
theorem toB_one {S : List SndM} {a b : Int} (h : toB S a b = true) : ∃ x, S = [x] := by
  unfold toB at h
  split at h
  · exact ⟨_, rfl⟩
  · cases h
set_option maxRecDepth 100000 in
set_option maxHeartbeats 8000000 in
theorem led_spec (Fr : Nat → Prop) (w : World) : Tri Tryz.prog 12 [] Fr w [] (fun v L => v = .bool true ∧ L = []) := by
  obtain ⟨o1, o2, o3, o4, o5, o6⟩ := ld_ok
  obtain ⟨t1, t2, t3, t4⟩ := ld_to
  obtain ⟨g1, g2, g3, g4⟩ := ld_get
  obtain ⟨q1, q2, q3, q4, q5, q6⟩ := ld_last
  obtain ⟨xA, eA⟩ := toB_one t1
  obtain ⟨xB, eB⟩ := toB_one t2
  obtain ⟨xE, eE⟩ := toB_one t3
  obtain ⟨xH, eH⟩ := toB_one t4
  rw [eA] at g1 t1; rw [eB] at g2 t2; rw [eE] at g3 t3; rw [eH] at g4 t4
  have f0 : ldR.Fit := newR_fit (fit_idem ldC) 0 false
  have f1 : ld1.1.Fit := takeR_fit f0 (by rw [q1]; decide) _ _ _ _
  have f2 : ld2.1.Fit := stepR_fit f1 _
  have f3 : ld3.1.Fit := takeR_fit f2 (by rw [q2]; decide) _ _ _ _
  have fA : ldA.1.Fit := stepR_fit f3 _
  have fB : ldB.1.Fit := takeR_fit fA (by rw [q3]; decide) _ _ _ _
  have fD : ldD.1.Fit := takeR_fit fB (by rw [q4]; decide) _ _ _ _
  have fE : ldE.1.Fit := takeR_fit fD (by rw [q5]; decide) _ _ _ _
  refine Tri.of 112 Tryz.func12 rfl (by kernel_rfl) tabOk rfl rfl ?_
  refine VC.seq (VC.region (VO.go (VO.nil ?_)))
  refine VC.seq (VC.region ?_)
  refine VO.go (VO.light (light_build (pv := [(0, .int .i64 2), (1, .int .i64 2), (5, .int .i64 4)]) (ldC.cells none 0) rfl rfl rfl (by kernel_rfl) rfl) ?_)
  refine VO.go (VO.call (Lc := []) (fun Fr w _ _ _ => rfit_spec Fr w ldC none 0 ⟨fun h => absurd rfl h⟩) rfl rfl ?_)
  rintro _ _ ⟨a, cap, ha, hcap, rfl, rfl⟩
  refine VO.go (VO.call (Lc := []) (fun Fr w _ _ h2 => new_spec Fr w (fitM ldC) a cap (ints_sl (h2.at_ 0 rfl)) ha hcap 0 false) rfl rfl ?_)
  intro v L hv
  rw [if_pos o1] at hv
  obtain ⟨p, rfl, rfl⟩ := hv
  show VO _ _ _ _ _ [repH p ldR, intH a cap (fitM ldC).qs] _
  refine VO.ent (L' := [repH p ldR]) (Imp.pick 0 rfl Imp.nil).ent ?_
  (repeat (first|refine zS ?_|refine zR ?_|refine zB ?_|refine zL ?_|refine zC ?_|refine zG (zN ?_)|refine zG (zD 0 rfl rfl rfl rfl ?_)))
  refine VO.go (VO.yes 17 false rfl rfl ?_)
  (repeat (first|refine zS ?_|refine zR ?_|refine zB ?_|refine zL ?_|refine zC ?_|refine zG (zN ?_)|refine zG (zD 0 rfl rfl rfl rfl ?_)|refine zG (zU rfl rfl rfl ?_)))
  refine VO.go (VO.callV' (fun Fr w hF hs hS => whole_spec Fr w (hS.at_ 0 rfl)) rfl ?_)
  (repeat (first|refine zS ?_|refine zR ?_|refine zB ?_|refine zL ?_|refine zC ?_|refine zG (zN ?_)|refine zG (zD 0 rfl rfl rfl rfl ?_)|refine zG (zU rfl rfl rfl ?_)))
  refine VO.go (VO.yes 22 false rfl (by rw [o2]; rfl) ?_)
  (repeat (first|refine zS ?_|refine zR ?_|refine zB ?_|refine zL ?_|refine zC ?_|refine zG (zN ?_)|refine zG (zD 0 rfl rfl rfl rfl ?_)|refine zG (zU rfl rfl rfl ?_)))
  refine VO.go (VO.callV (fun Fr w => put_spec Fr w 0 1 1 1) rfl ?_)
  (repeat (first|refine zS ?_|refine zR ?_|refine zB ?_|refine zL ?_|refine zC ?_|refine zG (zN ?_)|refine zG (zD 0 rfl rfl rfl rfl ?_)|refine zG (zU rfl rfl rfl ?_)))
  refine VO.go (VO.call (Lc := [repH p ldR]) (Lr := []) (fun Fr w _ _ _ => take0_spec Fr w f0 (by rw [q1]; decide) 32 (putM 0 1 1 1) 0 (by decide) (by decide)) rfl rfl ?_)
  rintro _ _ ⟨a1, c1, rfl, rfl⟩
  show VO _ _ _ _ _ [repH p ld1.1, slH sndT 30 a1 ld1.2.length c1 (flat sndC ld1.2)] _
  refine VO.ent (L' := [repH p ld1.1]) (Imp.pick 0 rfl Imp.nil).ent ?_
  (repeat (first|refine zS ?_|refine zR ?_|refine zB ?_|refine zL ?_|refine zC ?_|refine zG (zN ?_)|refine zG (zD 0 rfl rfl rfl rfl ?_)|refine zG (zU rfl rfl rfl ?_)))
  refine VO.go (VO.yes 29 false rfl (by show ((ld1.2.length : Int) != 0) = false; rw [o3]; rfl) ?_)
  (repeat (first|refine zS ?_|refine zR ?_|refine zB ?_|refine zL ?_|refine zC ?_|refine zG (zN ?_)|refine zG (zD 0 rfl rfl rfl rfl ?_)|refine zG (zU rfl rfl rfl ?_)))
  refine VO.go (VO.call (Lc := [repH p ld1.1]) (Lr := []) (fun Fr w _ _ _ => step_spec Fr w f1.ok 0) rfl rfl ?_)
  rintro _ _ ⟨a2, c2, rfl, rfl⟩
  show VO _ _ _ _ _ [repH p ld2.1, slH sndT 30 a2 ld2.2.length c2 (flat sndC ld2.2)] _
  refine VO.ent (L' := [repH p ld2.1]) (Imp.pick 0 rfl Imp.nil).ent ?_
  (repeat (first|refine zS ?_|refine zR ?_|refine zB ?_|refine zL ?_|refine zC ?_|refine zG (zN ?_)|refine zG (zD 0 rfl rfl rfl rfl ?_)|refine zG (zU rfl rfl rfl ?_)))
  refine VO.go (VO.yes 35 false rfl (by show ((ld2.2.length : Int) != 0) = false; rw [o4]; rfl) ?_)
  (repeat (first|refine zS ?_|refine zR ?_|refine zB ?_|refine zL ?_|refine zC ?_|refine zG (zN ?_)|refine zG (zD 0 rfl rfl rfl rfl ?_)|refine zG (zU rfl rfl rfl ?_)))
  refine VO.go (VO.light (light_build (pv := [(0, .int .i64 5), (1, .int .i64 1), (13, .int .i64 4)]) (fgC ldG mem0) rfl rfl rfl (by kernel_rfl) rfl) ?_)
  refine VO.go (VO.call (Lc := [repH p ld2.1]) (Lr := []) (fun Fr w _ _ _ => take0_spec Fr w f2 (by rw [q2]; decide) 1 ldG 0 (by decide) (by decide)) rfl rfl ?_)
  rintro _ _ ⟨a3, c3, rfl, rfl⟩
  show VO _ _ _ _ _ [repH p ld3.1, slH sndT 30 a3 ld3.2.length c3 (flat sndC ld3.2)] _
  refine VO.ent (L' := [repH p ld3.1]) (Imp.pick 0 rfl Imp.nil).ent ?_
  (repeat (first|refine zS ?_|refine zR ?_|refine zB ?_|refine zL ?_|refine zC ?_|refine zG (zN ?_)|refine zG (zD 0 rfl rfl rfl rfl ?_)|refine zG (zU rfl rfl rfl ?_)))
  refine VC.condNE (i := (ld3.2.length : Int)) (j := 0) rfl (fun h => absurd (by rw [o5]; rfl) h) (fun _ => VC.skip ?_)
  (repeat (first|refine zS ?_|refine zR ?_|refine zB ?_|refine zL ?_|refine zC ?_|refine zG (zN ?_)|refine zG (zD 0 rfl rfl rfl rfl ?_)))
  refine VO.go (VO.call (Lc := [repH p ld3.1]) (Lr := []) (fun Fr w _ _ _ => step_spec Fr w f3.ok 0) rfl rfl ?_)
  rintro _ _ ⟨aA, cA, rfl, rfl⟩
  show VO _ _ _ _ _ [repH p ldA.1, slH sndT 30 aA ldA.2.length cA (flat sndC ldA.2)] _
  (repeat (first|refine zS ?_|refine zR ?_|refine zB ?_|refine zL ?_|refine zC ?_|refine zG (zN ?_)|refine zG (zD 0 rfl rfl rfl rfl ?_)))
  refine VO.go (VO.callV (fun Fr w => put_spec Fr w 0 1 2 1) rfl ?_)
  (repeat (first|refine zS ?_|refine zR ?_|refine zB ?_|refine zL ?_|refine zC ?_|refine zG (zN ?_)|refine zG (zD 0 rfl rfl rfl rfl ?_)))
  refine VO.go (VO.call (Lc := [repH p ldA.1]) (fun Fr w _ _ _ => take0_spec Fr w fA (by rw [q3]; decide) 32 (putM 0 1 2 1) 0 (by decide) (by decide)) rfl rfl ?_)
  rintro _ _ ⟨aB, cB, rfl, rfl⟩
  show VO _ _ _ _ _ [repH p ldB.1, slH sndT 30 aB ldB.2.length cB (flat sndC ldB.2), slH sndT 30 aA ldA.2.length cA (flat sndC ldA.2)] _
  (repeat (first|refine zS ?_|refine zR ?_|refine zB ?_|refine zL ?_|refine zC ?_|refine zG (zN ?_)|refine zG (zD 0 rfl rfl rfl rfl ?_)))
  refine VO.go (VO.light (light_build (pv := [(0, .int .i64 5), (1, .int .i64 1), (12, .int .i64 1), (13, .int .i64 5), (14, .int .i64 1)]) (fgC ldK mem0) rfl rfl rfl (by kernel_rfl) rfl) ?_)
  refine VO.go (VO.call (Lc := [repH p ldB.1]) (fun Fr w _ _ _ => take0_spec Fr w fB (by rw [q4]; decide) 1 ldK 0 (by decide) (by decide)) rfl rfl ?_)
  rintro _ _ ⟨aD, cD, rfl, rfl⟩
  show VO _ _ _ _ _ [repH p ldD.1, slH sndT 30 aD ldD.2.length cD (flat sndC ldD.2), slH sndT 30 aB ldB.2.length cB (flat sndC ldB.2), slH sndT 30 aA ldA.2.length cA (flat sndC ldA.2)] _
  (repeat (first|refine zS ?_|refine zR ?_|refine zB ?_|refine zL ?_|refine zC ?_|refine zG (zN ?_)|refine zG (zD 0 rfl rfl rfl rfl ?_)))
  refine VO.go (VO.callV (fun Fr w => put_spec Fr w 0 1 3 1) rfl ?_)
  (repeat (first|refine zS ?_|refine zR ?_|refine zB ?_|refine zL ?_|refine zC ?_|refine zG (zN ?_)|refine zG (zD 0 rfl rfl rfl rfl ?_)))
  refine VO.go (VO.call (Lc := [repH p ldD.1]) (fun Fr w _ _ _ => take0_spec Fr w fD (by rw [q5]; decide) 32 (putM 0 1 3 1) 0 (by decide) (by decide)) rfl rfl ?_)
  rintro _ _ ⟨aE, cE, rfl, rfl⟩
  show VO _ _ _ _ _ [repH p ldE.1, slH sndT 30 aE ldE.2.length cE (flat sndC ldE.2), slH sndT 30 aD ldD.2.length cD (flat sndC ldD.2), slH sndT 30 aB ldB.2.length cB (flat sndC ldB.2), slH sndT 30 aA ldA.2.length cA (flat sndC ldA.2)] _
  (repeat (first|refine zS ?_|refine zR ?_|refine zB ?_|refine zL ?_|refine zC ?_|refine zG (zN ?_)|refine zG (zD 0 rfl rfl rfl rfl ?_)))
  refine VO.go (VO.callV (fun Fr w => put_spec Fr w 0 2 1 1) rfl ?_)
  (repeat (first|refine zS ?_|refine zR ?_|refine zB ?_|refine zL ?_|refine zC ?_|refine zG (zN ?_)|refine zG (zD 0 rfl rfl rfl rfl ?_)))
  refine VO.go (VO.alloc rfl fun fb => ?_)
  refine VO.go (VO.stA (vs := fgC (putM 0 2 1 1) mem0) (cs' := fgC (putM 0 2 1 1) mem0) 0 rfl rfl rfl rfl (Nat.le_refl _) rfl rfl rfl ?_)
  (repeat (first|refine zS ?_|refine zR ?_|refine zB ?_|refine zL ?_|refine zC ?_|refine zG (zN ?_)|refine zG (zD 0 rfl rfl rfl rfl ?_)))
  refine VO.go (VO.light (light_build (pv := [(0, .int .i64 1), (1, .string ⟨#[107]⟩)]) ldQ.op.cells rfl rfl rfl rfl rfl) ?_)
  refine VO.go (VO.stA (vs := ldQ.op.cells) (cs' := fgC ldQ mem0) 0 rfl rfl rfl rfl (by show 7 + 4 ≤ 29; omega) rfl rfl rfl ?_)
  (repeat (first|refine zS ?_|refine zR ?_|refine zB ?_|refine zL ?_|refine zC ?_|refine zG (zN ?_)|refine zG (zD 0 rfl rfl rfl rfl ?_)))
  refine VO.go (VO.ldA 0 (fgC ldQ mem0) rfl rfl rfl rfl ?_)
  refine VO.ent (L' := [repH p ldE.1, slH sndT 30 aE ldE.2.length cE (flat sndC ldE.2), slH sndT 30 aD ldD.2.length cD (flat sndC ldD.2), slH sndT 30 aB ldB.2.length cB (flat sndC ldB.2), slH sndT 30 aA ldA.2.length cA (flat sndC ldA.2)]) (Imp.pick 1 rfl (Imp.pick 1 rfl (Imp.pick 1 rfl (Imp.pick 1 rfl (Imp.pick 1 rfl Imp.nil))))).ent ?_
  refine VO.go (VO.call (Lc := [repH p ldE.1]) (fun Fr w _ _ _ => take0_spec Fr w fE (by rw [q6]; decide) 32 ldQ 0 (by decide) (by decide)) rfl rfl ?_)
  rintro _ _ ⟨aH, cH, rfl, rfl⟩
  show VO _ _ _ _ _ [repH p ldH.1, slH sndT 30 aH ldH.2.length cH (flat sndC ldH.2), slH sndT 30 aE ldE.2.length cE (flat sndC ldE.2), slH sndT 30 aD ldD.2.length cD (flat sndC ldD.2), slH sndT 30 aB ldB.2.length cB (flat sndC ldB.2), slH sndT 30 aA ldA.2.length cA (flat sndC ldA.2)] _
  refine VO.go (VO.nil ?_)
  rw [eA, eB, eE, eH]
  refine VC.opn 5 rfl (HOpn.one sndT aA cA xA) ?_
  rintro ⟨bA, rA⟩ rfl
  refine VC.opn 5 rfl (HOpn.one sndT aB cB xB) ?_
  rintro ⟨bB, rB⟩ rfl
  refine VC.opn 4 rfl (HOpn.one sndT aE cE xE) ?_
  rintro ⟨bE, rE⟩ rfl
  refine VC.opn 4 rfl (HOpn.one sndT aH cH xH) ?_
  rintro ⟨bH, rH⟩ rfl
  show VC _ _ _ [pt bH (sndC xH ++ rH) sndT, pt bE (sndC xE ++ rE) sndT, pt bB (sndC xB ++ rB) sndT, pt bA (sndC xA ++ rA) sndT, repH p ldH.1, slH sndT 30 aD ldD.2.length cD (flat sndC ldD.2)] _
  (repeat (first|refine zS ?_|refine zR ?_|refine zB ?_|refine zL ?_|refine zC ?_|refine zG (zN ?_)|refine zG (zD 0 rfl rfl rfl rfl ?_)))
  refine VO.go (VO.callV' (fun Fr w hF hs hS => to_spec Fr w (rw_one sndC_len (hS.blk 3 rfl)) (by show 1 ≤ 1000000; omega) 1 4) rfl ?_)
  (repeat (first|refine zS ?_|refine zR ?_|refine zB ?_|refine zL ?_|refine zC ?_|refine zG (zN ?_)|refine zG (zD 0 rfl rfl rfl rfl ?_)))
  refine VO.go (VO.yes 61 true rfl t1 ?_)
  (repeat (first|refine zS ?_|refine zR ?_|refine zB ?_|refine zL ?_|refine zC ?_|refine zG (zN ?_)|refine zG (zD 0 rfl rfl rfl rfl ?_)|refine zG (zU rfl rfl rfl ?_)))
  refine VO.go (VO.light (light_idx 0 rfl rfl rfl rfl rfl (by omega) (by show 0 < 1; omega)) ?_)
  (repeat (first|refine zS ?_|refine zR ?_|refine zB ?_|refine zL ?_|refine zC ?_|refine zG (zN ?_)|refine zG (zD 0 rfl rfl rfl rfl ?_)|refine zG (zD 1 rfl rfl rfl rfl ?_)|refine zG (zD 2 rfl rfl rfl rfl ?_)|refine zG (zD 3 rfl rfl rfl rfl ?_)|refine zG (zU rfl rfl rfl ?_)))
  refine VO.go (VO.yes 70 true rfl (by rw [show xA.2.entry.index = 1 from g1]; rfl) ?_)
  (repeat (first|refine zS ?_|refine zR ?_|refine zB ?_|refine zL ?_|refine zC ?_|refine zG (zN ?_)|refine zG (zD 0 rfl rfl rfl rfl ?_)|refine zG (zU rfl rfl rfl ?_)))
  refine VO.go (VO.callV' (fun Fr w hF hs hS => to_spec Fr w (rw_one sndC_len (hS.blk 2 rfl)) (by show 1 ≤ 1000000; omega) 32 3) rfl ?_)
  (repeat (first|refine zS ?_|refine zR ?_|refine zB ?_|refine zL ?_|refine zC ?_|refine zG (zN ?_)|refine zG (zD 0 rfl rfl rfl rfl ?_)|refine zG (zU rfl rfl rfl ?_)))
  refine VO.go (VO.yes 74 true rfl t2 ?_)
  (repeat (first|refine zS ?_|refine zR ?_|refine zB ?_|refine zL ?_|refine zC ?_|refine zG (zN ?_)|refine zG (zD 0 rfl rfl rfl rfl ?_)|refine zG (zU rfl rfl rfl ?_)))
  refine VO.go (VO.light (light_idx 0 rfl rfl rfl rfl rfl (by omega) (by show 0 < 1; omega)) ?_)
  (repeat (first|refine zS ?_|refine zR ?_|refine zB ?_|refine zL ?_|refine zC ?_|refine zG (zN ?_)|refine zG (zD 0 rfl rfl rfl rfl ?_)|refine zG (zD 1 rfl rfl rfl rfl ?_)|refine zG (zD 2 rfl rfl rfl rfl ?_)|refine zG (zD 3 rfl rfl rfl rfl ?_)|refine zG (zU rfl rfl rfl ?_)))
  refine VO.go (VO.yes 82 true rfl (by rw [show xB.2.reason = 6 from g2]; rfl) ?_)
  (repeat (first|refine zS ?_|refine zR ?_|refine zB ?_|refine zL ?_|refine zC ?_|refine zG (zN ?_)|refine zG (zD 0 rfl rfl rfl rfl ?_)|refine zG (zU rfl rfl rfl ?_)))
  refine VO.go (VO.yes 87 true rfl (by show ((ldD.2.length : Int) == 0) = true; rw [o6]; rfl) ?_)
  (repeat (first|refine zS ?_|refine zR ?_|refine zB ?_|refine zL ?_|refine zC ?_|refine zG (zN ?_)|refine zG (zD 0 rfl rfl rfl rfl ?_)|refine zG (zU rfl rfl rfl ?_)))
  refine VO.go (VO.callV' (fun Fr w hF hs hS => to_spec Fr w (rw_one sndC_len (hS.blk 1 rfl)) (by show 1 ≤ 1000000; omega) 32 2) rfl ?_)
  (repeat (first|refine zS ?_|refine zR ?_|refine zB ?_|refine zL ?_|refine zC ?_|refine zG (zN ?_)|refine zG (zD 0 rfl rfl rfl rfl ?_)|refine zG (zU rfl rfl rfl ?_)))
  refine VO.go (VO.yes 91 true rfl t3 ?_)
  (repeat (first|refine zS ?_|refine zR ?_|refine zB ?_|refine zL ?_|refine zC ?_|refine zG (zN ?_)|refine zG (zD 0 rfl rfl rfl rfl ?_)|refine zG (zU rfl rfl rfl ?_)))
  refine VO.go (VO.light (light_idx 0 rfl rfl rfl rfl rfl (by omega) (by show 0 < 1; omega)) ?_)
  (repeat (first|refine zS ?_|refine zR ?_|refine zB ?_|refine zL ?_|refine zC ?_|refine zG (zN ?_)|refine zG (zD 0 rfl rfl rfl rfl ?_)|refine zG (zD 1 rfl rfl rfl rfl ?_)|refine zG (zD 2 rfl rfl rfl rfl ?_)|refine zG (zD 3 rfl rfl rfl rfl ?_)|refine zG (zU rfl rfl rfl ?_)))
  refine VO.go (VO.yes 100 true rfl (by rw [show xE.2.res.version = 1 from g3]; rfl) ?_)
  (repeat (first|refine zS ?_|refine zR ?_|refine zB ?_|refine zL ?_|refine zC ?_|refine zG (zN ?_)|refine zG (zD 0 rfl rfl rfl rfl ?_)|refine zG (zU rfl rfl rfl ?_)))
  refine VO.go (VO.callV' (fun Fr w hF hs hS => to_spec Fr w (rw_one sndC_len (hS.blk 0 rfl)) (by show 1 ≤ 1000000; omega) 32 3) rfl ?_)
  (repeat (first|refine zS ?_|refine zR ?_|refine zB ?_|refine zL ?_|refine zC ?_|refine zG (zN ?_)|refine zG (zD 0 rfl rfl rfl rfl ?_)|refine zG (zU rfl rfl rfl ?_)))
  refine VO.go (VO.yes 104 true rfl t4 ?_)
  (repeat (first|refine zS ?_|refine zR ?_|refine zB ?_|refine zL ?_|refine zC ?_|refine zG (zN ?_)|refine zG (zD 0 rfl rfl rfl rfl ?_)|refine zG (zU rfl rfl rfl ?_)))
  refine VO.go (VO.light (light_idx 0 rfl rfl rfl rfl rfl (by omega) (by show 0 < 1; omega)) ?_)
  (repeat (first|refine zS ?_|refine zR ?_|refine zB ?_|refine zL ?_|refine zC ?_|refine zG (zN ?_)|refine zG (zD 0 rfl rfl rfl rfl ?_)|refine zG (zD 1 rfl rfl rfl rfl ?_)|refine zG (zD 2 rfl rfl rfl rfl ?_)|refine zG (zD 3 rfl rfl rfl rfl ?_)|refine zG (zU rfl rfl rfl ?_)))
  exact VC.ret (Ret.bool 0 rfl rfl (by rw [show xH.2.reason = 4 from g4]; rfl) Imp.nil.ent ⟨rfl, rfl⟩)

end Go.Proofs.YtbbnmgakmcppdaaGreat.Rep
