/- Logs: an entry is put behind all others. No condition. -/
import Derived.Test.YtbbnmgakmcppdaaGreatLg
import Derived.Test.YtbbnmgakmcppdaaGreatVgX
namespace Go.Proofs.YtbbnmgakmcppdaaGreat.Lg
open Go Go.Proofs.YtbbnmgakmcppdaaGreat.Vg Go.Proofs.YtbbnmgakmcppdaaGreat.T Go.Proofs.YtbbnmgakmcppdaaGreat.Api Go.Proofs.YtbbnmgakmcppdaaGreat.Kv
set_option linter.unusedSimpArgs false
set_option linter.unusedVariables false
attribute [local irreducible] VO VC VA

def readsB (o : OpM) : Bool := decide (o.kind = 1) && decide (opCheck o = 0)
def badE (e : EntryM) : Bool := decide (e.client < 0) || decide (6 ≤ e.client) || decide (e.seq < 1) || (decide (opCheck e.op ≠ 0) || readsB e.op)
def logErr (es : List EntryM) (e : EntryM) : Int :=
  if badE e then 2 else if (4096 : Int) ≤ es.length then 60 else if e.index ≠ es.length + 1 then 70 else if e.seq ≤ (lastOf es e.client).1 then 71 else 0
def logApp (es : List EntryM) (e : EntryM) : List EntryM := if logErr es e = 0 then es ++ [e] else es
def logRes (es : List EntryM) (e : EntryM) : ResM := if logErr es e = 0 then (kvApply (logRun es).1 e.index e.op).2 else resZ
theorem lasts_set {es : List EntryM} {e : EntryM} {c : Nat} (h : c < 6) (hc : e.client = c) (x y z : Value) :
    wrC (x :: y :: z :: lastsC es) (0 + 3 + c * 2) [.int .i64 e.seq, .int .i64 e.index] = x :: y :: z :: lastsC (es ++ [e]) := by
  unfold lastsC
  simp only [lastOf_snoc, hc]
  match c, h with
  | 0, _ => rfl
  | 1, _ => rfl
  | 2, _ => rfl
  | 3, _ => rfl
  | 4, _ => rfl
  | 5, _ => rfl
  | c + 6, h => omega
set_option maxRecDepth 100000 in
set_option maxHeartbeats 4000000 in
theorem append_spec (Fr : Nat → Prop) (w : World) (p : Nat) (es : List EntryM) (e : EntryM) : Tri Tryz.prog 145 [.pointer (some ⟨p, 0, none⟩), .agg (entC e).toArray] Fr w [logH p es]
    (fun v L => v = .tuple #[.agg (resC (logRes es e)).toArray, .int .i64 (logErr es e)] ∧ L = [logH p (logApp es e)]) := by
  refine Tri.of 107 Tryz.func145 rfl (by kernel_rfl) tabOk rfl rfl ?_
  refine VC.seq (VC.region (VO.go (VO.boxA (vs := entC e) rfl fun eb => VO.go (VO.alloc rfl fun rb => ?_))))
  refine VO.go (VO.nil (VC.seq (VC.block ?_)))
  refine VC.opn 2 rfl (HOpn.log p es) ?_
  rintro x -
  have hrl := logRun_len es
  unfold logL
  show VC _ _ _ [pt p (logCs es x) logT, kvH x.sp (logRun es).1, slH entT 7 x.a1 es.length x.c1 (flat entC es), slH resT 4 x.a2 (logRun es).2.length x.c2 (flat resC (logRun es).2), pt rb (resC resZ) resT, pt eb (entC e) entT] _
  have back : ∀ {X : Cx}, Ent X [pt p (logCs es x) logT, kvH x.sp (logRun es).1, slH entT 7 x.a1 es.length x.c1 (flat entC es), slH resT 4 x.a2 (logRun es).2.length x.c2 (flat resC (logRun es).2), pt rb (resC resZ) resT, pt eb (entC e) entT] [logH p es] :=
    (Imp.log x (Imp.pick 0 rfl (Imp.pick 0 rfl (Imp.pick 0 rfl (Imp.pick 0 rfl Imp.nil))))).ent
  (repeat (first|refine zS ?_|refine zR ?_|refine zB ?_|refine zL ?_|refine zC ?_|refine zG (zN ?_)|refine zG (zD 0 rfl rfl rfl rfl ?_)))
  refine VO.go (VO.callV' (fun Fr w hF hs hS => none_spec Fr w (hS.blk 0 rfl)) rfl ?_)
  (repeat (first|refine zS ?_|refine zR ?_|refine zB ?_|refine zL ?_|refine zC ?_|refine zG (zN ?_)|refine zG (zD 0 rfl rfl rfl rfl ?_)))
  refine VC.condF rfl ?_
  refine VC.seq ?_
  refine VC.meetS (σ := Unit) (fun _ => [(0, .pointer (some ⟨p, 0, none⟩)), (3, .pointer (some ⟨eb, 0, none⟩)), (4, .pointer (some ⟨rb, 0, none⟩)), (10, .bool (badE e))]) (fun _ => [pt p (logCs es x) logT, kvH x.sp (logRun es).1, slH entT 7 x.a1 es.length x.c1 (flat entC es), slH resT 4 x.a2 (logRun es).2.length x.c2 (flat resC (logRun es).2), pt rb (resC resZ) resT, pt eb (entC e) entT]) (fun _ => True) ?_ ?_
  · (repeat (first|refine zS ?_|refine zR ?_|refine zB ?_|refine zL ?_|refine zC ?_|refine zG (zN ?_)|refine zG (zD 0 rfl rfl rfl rfl ?_)|refine zG (zD 1 rfl rfl rfl rfl ?_)|refine zG (zD 2 rfl rfl rfl rfl ?_)|refine zG (zD 3 rfl rfl rfl rfl ?_)|refine zG (zD 4 rfl rfl rfl rfl ?_)|refine zG (zD 5 rfl rfl rfl rfl ?_)))
    by_cases h1 : e.client < 0
    · have hb : badE e = true := by simp [badE, h1]
      refine VO.go (VO.yes 14 true rfl (decide_eq_true h1) ?_)
      (repeat (first|refine zS ?_|refine zR ?_|refine zB ?_|refine zL ?_|refine zC ?_|refine zG (zN ?_)|refine zG (zD 0 rfl rfl rfl rfl ?_)|refine zG (zD 1 rfl rfl rfl rfl ?_)|refine zG (zD 2 rfl rfl rfl rfl ?_)|refine zG (zD 3 rfl rfl rfl rfl ?_)|refine zG (zD 4 rfl rfl rfl rfl ?_)|refine zG (zD 5 rfl rfl rfl rfl ?_)|refine zG (zU rfl rfl rfl ?_)))
      refine VO.go (VO.yes 19 true rfl rfl ?_)
      (repeat (first|refine zS ?_|refine zR ?_|refine zB ?_|refine zL ?_|refine zC ?_|refine zG (zN ?_)|refine zG (zD 0 rfl rfl rfl rfl ?_)|refine zG (zD 1 rfl rfl rfl rfl ?_)|refine zG (zD 2 rfl rfl rfl rfl ?_)|refine zG (zD 3 rfl rfl rfl rfl ?_)|refine zG (zD 4 rfl rfl rfl rfl ?_)|refine zG (zD 5 rfl rfl rfl rfl ?_)|refine zG (zU rfl rfl rfl ?_)))
      refine VC.condT rfl (VC.skip ?_)
      exact ⟨(), trivial, by rw [hb]; exact Sub.cons rfl (Sub.cons rfl (Sub.cons rfl (Sub.cons rfl (Sub.nil _)))), Ent.refl⟩
    refine VO.go (VO.yes 14 false rfl (decide_eq_false h1) ?_)
    (repeat (first|refine zS ?_|refine zR ?_|refine zB ?_|refine zL ?_|refine zC ?_|refine zG (zN ?_)|refine zG (zD 0 rfl rfl rfl rfl ?_)|refine zG (zD 1 rfl rfl rfl rfl ?_)|refine zG (zD 2 rfl rfl rfl rfl ?_)|refine zG (zD 3 rfl rfl rfl rfl ?_)|refine zG (zD 4 rfl rfl rfl rfl ?_)|refine zG (zD 5 rfl rfl rfl rfl ?_)|refine zG (zU rfl rfl rfl ?_)))
    by_cases h2 : 6 ≤ e.client
    · have hb : badE e = true := by simp [badE, h2]
      refine VO.go (VO.yes 19 true rfl (decide_eq_true h2) ?_)
      (repeat (first|refine zS ?_|refine zR ?_|refine zB ?_|refine zL ?_|refine zC ?_|refine zG (zN ?_)|refine zG (zD 0 rfl rfl rfl rfl ?_)|refine zG (zD 1 rfl rfl rfl rfl ?_)|refine zG (zD 2 rfl rfl rfl rfl ?_)|refine zG (zD 3 rfl rfl rfl rfl ?_)|refine zG (zD 4 rfl rfl rfl rfl ?_)|refine zG (zD 5 rfl rfl rfl rfl ?_)|refine zG (zU rfl rfl rfl ?_)))
      refine VC.condT rfl (VC.skip ?_)
      exact ⟨(), trivial, by rw [hb]; exact Sub.cons rfl (Sub.cons rfl (Sub.cons rfl (Sub.cons rfl (Sub.nil _)))), Ent.refl⟩
    refine VO.go (VO.yes 19 false rfl (decide_eq_false h2) ?_)
    (repeat (first|refine zS ?_|refine zR ?_|refine zB ?_|refine zL ?_|refine zC ?_|refine zG (zN ?_)|refine zG (zD 0 rfl rfl rfl rfl ?_)|refine zG (zD 1 rfl rfl rfl rfl ?_)|refine zG (zD 2 rfl rfl rfl rfl ?_)|refine zG (zD 3 rfl rfl rfl rfl ?_)|refine zG (zD 4 rfl rfl rfl rfl ?_)|refine zG (zD 5 rfl rfl rfl rfl ?_)|refine zG (zU rfl rfl rfl ?_)))
    refine VC.condP rfl (fun h3 => VC.skip ?_) (fun h3 => ?_)
    · have hb : badE e = true := by simp [badE, h3]
      exact ⟨(), trivial, Sub.cons rfl (Sub.cons rfl (Sub.cons rfl (Sub.bl rfl (by simp [hb, h3]) (Sub.nil _)))), Ent.refl⟩
    · have hb : badE e = (decide (opCheck e.op ≠ 0) || readsB e.op) := by simp [badE, h1, h2, h3]
      (repeat (first|refine zS ?_|refine zR ?_|refine zB ?_|refine zL ?_|refine zC ?_|refine zG (zN ?_)|refine zG (zD 0 rfl rfl rfl rfl ?_)|refine zG (zD 1 rfl rfl rfl rfl ?_)|refine zG (zD 2 rfl rfl rfl rfl ?_)|refine zG (zD 3 rfl rfl rfl rfl ?_)|refine zG (zD 4 rfl rfl rfl rfl ?_)|refine zG (zD 5 rfl rfl rfl rfl ?_)))
      refine VO.go (VO.ldA 5 e.op.cells rfl rfl rfl rfl ?_)
      refine VO.go (VO.callV (fun Fr w => check_spec Fr w e.op) rfl ?_)
      (repeat (first|refine zS ?_|refine zR ?_|refine zB ?_|refine zL ?_|refine zC ?_|refine zG (zN ?_)|refine zG (zD 0 rfl rfl rfl rfl ?_)|refine zG (zD 1 rfl rfl rfl rfl ?_)|refine zG (zD 2 rfl rfl rfl rfl ?_)|refine zG (zD 3 rfl rfl rfl rfl ?_)|refine zG (zD 4 rfl rfl rfl rfl ?_)|refine zG (zD 5 rfl rfl rfl rfl ?_)))
      by_cases h4 : opCheck e.op = 0
      · refine VO.go (VO.yes 28 false rfl (by simp [h4]) ?_)
        (repeat (first|refine zS ?_|refine zR ?_|refine zB ?_|refine zL ?_|refine zC ?_|refine zG (zN ?_)|refine zG (zD 0 rfl rfl rfl rfl ?_)|refine zG (zD 1 rfl rfl rfl rfl ?_)|refine zG (zD 2 rfl rfl rfl rfl ?_)|refine zG (zD 3 rfl rfl rfl rfl ?_)|refine zG (zD 4 rfl rfl rfl rfl ?_)|refine zG (zD 5 rfl rfl rfl rfl ?_)|refine zG (zU rfl rfl rfl ?_)))
        refine VO.go (VO.ldA 5 e.op.cells rfl rfl rfl rfl ?_)
        refine VO.go (VO.callV (fun Fr w => Kv.reads_spec Fr w e.op) rfl ?_)
        (repeat (first|refine zS ?_|refine zR ?_|refine zB ?_|refine zL ?_|refine zC ?_|refine zG (zN ?_)|refine zG (zD 0 rfl rfl rfl rfl ?_)|refine zG (zD 1 rfl rfl rfl rfl ?_)|refine zG (zD 2 rfl rfl rfl rfl ?_)|refine zG (zD 3 rfl rfl rfl rfl ?_)|refine zG (zD 4 rfl rfl rfl rfl ?_)|refine zG (zD 5 rfl rfl rfl rfl ?_)|refine zG (zU rfl rfl rfl ?_)))
        exact ⟨(), trivial, Sub.cons rfl (Sub.cons rfl (Sub.cons rfl (Sub.bl rfl (by rw [hb]; simp [readsB, h4]) (Sub.nil _)))), Ent.refl⟩
      · refine VO.go (VO.yes 28 true rfl (by simp [h4]) ?_)
        (repeat (first|refine zS ?_|refine zR ?_|refine zB ?_|refine zL ?_|refine zC ?_|refine zG (zN ?_)|refine zG (zD 0 rfl rfl rfl rfl ?_)|refine zG (zD 1 rfl rfl rfl rfl ?_)|refine zG (zD 2 rfl rfl rfl rfl ?_)|refine zG (zD 3 rfl rfl rfl rfl ?_)|refine zG (zD 4 rfl rfl rfl rfl ?_)|refine zG (zD 5 rfl rfl rfl rfl ?_)|refine zG (zU rfl rfl rfl ?_)))
        exact ⟨(), trivial, Sub.cons rfl (Sub.cons rfl (Sub.cons rfl (Sub.bl rfl (by rw [hb, decide_eq_true (show opCheck e.op ≠ 0 from h4)]; rfl) (Sub.nil _)))), Ent.refl⟩
  rintro _ -
  have fin : ∀ {X : Cx} {fn : Func} {E : Env} (z : Int), fn.results = #[.cell 4 resT, .tmp 5] → logErr es e = z → z ≠ 0 → tyLook X.tab resT = some T.t42 → Vg.look E 4 = some (.pointer (some ⟨rb, 0, none⟩)) → Vg.look E 5 = some (.int .i64 z) →
      Ret X fn (fun v L => v = .tuple #[.agg (resC (logRes es e)).toArray, .int .i64 (logErr es e)] ∧ L = [logH p (logApp es e)]) E [pt p (logCs es x) logT, kvH x.sp (logRun es).1, slH entT 7 x.a1 es.length x.c1 (flat entC es), slH resT 4 x.a2 (logRun es).2.length x.c2 (flat resC (logRun es).2), pt rb (resC resZ) resT, pt eb (entC e) entT] := fun z hr hz hne hT h4 h5 =>
    Ret.cellTmp 4 5 hr h4 hT (RdL.many (ds := resC resZ) 4 rfl rfl) h5 back ⟨by rw [logRes, if_neg (by rw [hz]; exact hne), hz], by rw [logApp, if_neg (by rw [hz]; exact hne)]⟩
  refine VC.cond rfl (fun hb => ?_) (fun hb => ?_)
  · (repeat (first|refine zS ?_|refine zR ?_|refine zB ?_|refine zL ?_|refine zC ?_|refine zG (zN ?_)|refine zG (zD 0 rfl rfl rfl rfl ?_)))
    refine VO.go (VO.light (light_build (pv := []) (resC resZ) rfl rfl rfl (by kernel_rfl) rfl) ?_)
    refine VO.go (VO.stA (vs := resC resZ) 4 rfl rfl rfl rfl (Nat.le_refl _) rfl rfl rfl ?_)
    (repeat (first|refine zS ?_|refine zR ?_|refine zB ?_|refine zL ?_|refine zC ?_|refine zG (zN ?_)|refine zG (zD 0 rfl rfl rfl rfl ?_)))
    exact VC.ret (fin 2 rfl (by rw [logErr, if_pos hb]) (by decide) rfl rfl rfl)
  (repeat (first|refine zS ?_|refine zR ?_|refine zB ?_|refine zL ?_|refine zC ?_|refine zG (zN ?_)|refine zG (zD 0 rfl rfl rfl rfl ?_)))
  refine VC.condP rfl (fun h5 => ?_) (fun h5 => ?_)
  · (repeat (first|refine zS ?_|refine zR ?_|refine zB ?_|refine zL ?_|refine zC ?_|refine zG (zN ?_)|refine zG (zD 0 rfl rfl rfl rfl ?_)))
    refine VO.go (VO.light (light_build (pv := []) (resC resZ) rfl rfl rfl (by kernel_rfl) rfl) ?_)
    refine VO.go (VO.stA (vs := resC resZ) 4 rfl rfl rfl rfl (Nat.le_refl _) rfl rfl rfl ?_)
    (repeat (first|refine zS ?_|refine zR ?_|refine zB ?_|refine zL ?_|refine zC ?_|refine zG (zN ?_)|refine zG (zD 0 rfl rfl rfl rfl ?_)))
    exact VC.ret (fin 60 rfl (by rw [logErr, hb, if_neg (by simp), if_pos h5]) (by decide) rfl rfl rfl)
  refine VC.seq (VC.draw (ts 0 10 .nil) (by kernel_rfl) (by decide +kernel) ?_)
  (repeat (first|refine yG (yN ?_)|refine yG (yD 0 rfl rfl rfl rfl rfl ?_)|refine yG (yD 1 rfl rfl rfl rfl rfl ?_)|refine yG (yD 2 rfl rfl rfl rfl rfl ?_)|refine yG (yD 3 rfl rfl rfl rfl rfl ?_)|refine yG (yD 4 rfl rfl rfl rfl rfl ?_)|refine yG (yD 5 rfl rfl rfl rfl rfl ?_)))
  refine VA.go (VA.add rfl rfl rfl (by omega) (by omega) ?_)
  (repeat (first|refine yG (yN ?_)|refine yG (yD 0 rfl rfl rfl rfl rfl ?_)|refine yG (yD 1 rfl rfl rfl rfl rfl ?_)|refine yG (yD 2 rfl rfl rfl rfl rfl ?_)|refine yG (yD 3 rfl rfl rfl rfl rfl ?_)|refine yG (yD 4 rfl rfl rfl rfl rfl ?_)|refine yG (yD 5 rfl rfl rfl rfl rfl ?_)))
  refine VC.condNE rfl (fun h6 => ?_) (fun h6 => ?_)
  · (repeat (first|refine zS ?_|refine zR ?_|refine zB ?_|refine zL ?_|refine zC ?_|refine zG (zN ?_)|refine zG (zD 0 rfl rfl rfl rfl ?_)))
    refine VO.go (VO.light (light_build (pv := []) (resC resZ) rfl rfl rfl (by kernel_rfl) rfl) ?_)
    refine VO.go (VO.stA (vs := resC resZ) 4 rfl rfl rfl rfl (Nat.le_refl _) rfl rfl rfl ?_)
    (repeat (first|refine zS ?_|refine zR ?_|refine zB ?_|refine zL ?_|refine zC ?_|refine zG (zN ?_)|refine zG (zD 0 rfl rfl rfl rfl ?_)))
    exact VC.ret (fin 70 rfl (by rw [logErr, hb, if_neg (by simp), if_neg h5, if_pos h6]) (by decide) rfl rfl rfl)
  have hcl : ∃ c : Nat, c < 6 ∧ e.client = c := by
    have : ¬ e.client < 0 ∧ ¬ 6 ≤ e.client := by simp [badE] at hb; omega
    exact ⟨e.client.toNat, by omega, by omega⟩
  obtain ⟨c, hc6, hcc⟩ := hcl
  obtain ⟨l1, l2⟩ := lastsC_at (es := es) (c := c) hc6
  have q1 : (logCs es x)[0 + 3 + c * 2 + 0]? = some (.int .i64 (lastOf es e.client).1) := by rw [show 0 + 3 + c * 2 + 0 = c * 2 + 3 by omega, hcc]; exact l1
  refine VC.seq (VC.draw (ts 0 12 .nil) (by kernel_rfl) (by decide +kernel) ?_)
  (repeat (first|refine yG (yN ?_)|refine yG (yD 0 rfl rfl rfl rfl rfl ?_)|refine yG (yD 1 rfl rfl rfl rfl rfl ?_)|refine yG (yD 2 rfl rfl rfl rfl rfl ?_)|refine yG (yD 3 rfl rfl rfl rfl rfl ?_)|refine yG (yD 4 rfl rfl rfl rfl rfl ?_)|refine yG (yD 5 rfl rfl rfl rfl rfl ?_)))
  refine VA.go (VA.light rfl (light_idxA c rfl rfl rfl rfl rfl hcc hc6) ?_)
  (repeat (first|refine yG (yN ?_)|refine yG (yD 0 rfl rfl rfl rfl rfl ?_)|refine yG (yD 1 rfl rfl rfl rfl rfl ?_)|refine yG (yD 2 rfl rfl rfl rfl rfl ?_)|refine yG (yD 3 rfl rfl rfl rfl rfl ?_)|refine yG (yD 4 rfl rfl rfl rfl rfl ?_)|refine yG (yD 5 rfl rfl rfl rfl rfl ?_)))
  refine VA.go (VA.load rfl rfl rfl (RdL.one 0 rfl q1) ?_)
  (repeat (first|refine yG (yN ?_)|refine yG (yD 0 rfl rfl rfl rfl rfl ?_)|refine yG (yD 1 rfl rfl rfl rfl rfl ?_)|refine yG (yD 2 rfl rfl rfl rfl rfl ?_)|refine yG (yD 3 rfl rfl rfl rfl rfl ?_)|refine yG (yD 4 rfl rfl rfl rfl rfl ?_)|refine yG (yD 5 rfl rfl rfl rfl rfl ?_)))
  refine VC.condP rfl (fun h7 => ?_) (fun h7 => VC.skip ?_)
  · (repeat (first|refine zS ?_|refine zR ?_|refine zB ?_|refine zL ?_|refine zC ?_|refine zG (zN ?_)|refine zG (zD 0 rfl rfl rfl rfl ?_)))
    refine VO.go (VO.light (light_build (pv := []) (resC resZ) rfl rfl rfl (by kernel_rfl) rfl) ?_)
    refine VO.go (VO.stA (vs := resC resZ) 4 rfl rfl rfl rfl (Nat.le_refl _) rfl rfl rfl ?_)
    (repeat (first|refine zS ?_|refine zR ?_|refine zB ?_|refine zL ?_|refine zC ?_|refine zG (zN ?_)|refine zG (zD 0 rfl rfl rfl rfl ?_)))
    exact VC.ret (fin 71 rfl (by rw [logErr, hb, if_neg (by simp), if_neg h5, if_neg (by omega), if_pos h7]) (by decide) rfl rfl rfl)
  have hz : logErr es e = 0 := by rw [logErr, hb, if_neg (by simp), if_neg h5, if_neg (by omega), if_neg h7]
  have hll : (logRun (es ++ [e])).2.length = (logRun es).2.length + 1 := by rw [logRun_snoc]; simp [logStep]
  have hrr : logRes es e = (kvApply (logRun es).1 e.index e.op).2 := by rw [logRes, if_pos hz]
  have happ : logApp es e = es ++ [e] := by rw [logApp, if_pos hz]
  have hst1 : (logRun (es ++ [e])).1 = (kvApply (logRun es).1 e.index e.op).1 := by rw [logRun_snoc]; rfl
  have hst2 : (logRun (es ++ [e])).2 = (logRun es).2 ++ [(kvApply (logRun es).1 e.index e.op).2] := by rw [logRun_snoc]; rfl
  refine VC.seq (VC.draw (ts 0 8 (.only 8 (.only 9 .nil))) (by kernel_rfl) (by decide +kernel) ?_)
  (repeat (first|refine yG (yN ?_)|refine yG (yD 0 rfl rfl rfl rfl rfl ?_)|refine yG (yD 1 rfl rfl rfl rfl rfl ?_)|refine yG (yD 2 rfl rfl rfl rfl rfl ?_)|refine yG (yD 3 rfl rfl rfl rfl rfl ?_)|refine yG (yD 4 rfl rfl rfl rfl rfl ?_)|refine yG (yD 5 rfl rfl rfl rfl rfl ?_)))
  refine VA.go (VA.ldA 5 e.op.cells rfl rfl rfl rfl rfl ?_)
  refine VA.go (VA.callAt 1 rfl (fun Fr w hF hs hS => Kv.apply_spec Fr w x.sp (logRun es).1 e.index e.op) rfl rfl (ψ := fun v H => v = .agg (resC (kvApply (logRun es).1 e.index e.op).2).toArray ∧ H = kvH x.sp (kvApply (logRun es).1 e.index e.op).1) (fun v L h => ⟨_, h.2, h.1, rfl⟩) ?_ ?_)
  · rintro _ _ ⟨rfl, rfl⟩
    exact (by (try refine Pd.st ?_);(repeat (first|exact Pd.nil|exact Pd.fnil|refine Pd.inner ?_|refine Pd.skip (by decide +kernel) ?_|refine zf (zo 0 rfl rfl) ?_|refine zf (zo 1 rfl rfl) ?_|refine zf (zo 2 rfl rfl) ?_|refine zf (zo 3 rfl rfl) ?_|refine zf (zo 4 rfl rfl) ?_|refine zf (zo 5 rfl rfl) ?_|refine zf (zm 0 rfl rfl) ?_|refine zf (zm 1 rfl rfl) ?_|refine zf (zm 2 rfl rfl) ?_|refine zf (zm 3 rfl rfl) ?_|refine zf (zm 4 rfl rfl) ?_|refine zf (zm 5 rfl rfl) ?_|refine zc (zo 0 rfl rfl) ?_|refine zc (zo 1 rfl rfl) ?_|refine zc (zo 2 rfl rfl) ?_|refine zc (zo 3 rfl rfl) ?_|refine zc (zo 4 rfl rfl) ?_|refine zc (zo 5 rfl rfl) ?_|refine zc (zm 0 rfl rfl) ?_|refine zc (zm 1 rfl rfl) ?_|refine zc (zm 2 rfl rfl) ?_|refine zc (zm 3 rfl rfl) ?_|refine zc (zm 4 rfl rfl) ?_|refine zc (zm 5 rfl rfl) ?_)))
  rintro _ _ ⟨rfl, rfl⟩
  generalize (kvApply (logRun es).1 e.index e.op).2 = rr at hrr hst2 ⊢
  generalize (kvApply (logRun es).1 e.index e.op).1 = S' at hst1 ⊢
  refine VA.go (VA.stA (vs := resC rr) 4 rfl rfl rfl rfl rfl (Nat.le_refl _) rfl rfl rfl (by (try refine Pd.st ?_);(repeat (first|exact Pd.nil|exact Pd.fnil|refine Pd.inner ?_|refine Pd.skip (by decide +kernel) ?_|refine zf (zo 0 rfl rfl) ?_|refine zf (zo 1 rfl rfl) ?_|refine zf (zo 2 rfl rfl) ?_|refine zf (zo 3 rfl rfl) ?_|refine zf (zo 4 rfl rfl) ?_|refine zf (zo 5 rfl rfl) ?_|refine zf (zm 0 rfl rfl) ?_|refine zf (zm 1 rfl rfl) ?_|refine zf (zm 2 rfl rfl) ?_|refine zf (zm 3 rfl rfl) ?_|refine zf (zm 4 rfl rfl) ?_|refine zf (zm 5 rfl rfl) ?_|refine zc (zo 0 rfl rfl) ?_|refine zc (zo 1 rfl rfl) ?_|refine zc (zo 2 rfl rfl) ?_|refine zc (zo 3 rfl rfl) ?_|refine zc (zo 4 rfl rfl) ?_|refine zc (zo 5 rfl rfl) ?_|refine zc (zm 0 rfl rfl) ?_|refine zc (zm 1 rfl rfl) ?_|refine zc (zm 2 rfl rfl) ?_|refine zc (zm 3 rfl rfl) ?_|refine zc (zm 4 rfl rfl) ?_|refine zc (zm 5 rfl rfl) ?_))) ?_)
  (repeat (first|refine yG (yN ?_)|refine yG (yD 0 rfl rfl rfl rfl rfl ?_)|refine yG (yD 1 rfl rfl rfl rfl rfl ?_)|refine yG (yD 2 rfl rfl rfl rfl rfl ?_)|refine yG (yD 3 rfl rfl rfl rfl rfl ?_)|refine yG (yD 4 rfl rfl rfl rfl rfl ?_)|refine yG (yD 5 rfl rfl rfl rfl rfl ?_)))
  refine VC.seq (VC.draw (ts 0 6 (.only 6 (.only 7 (ts 8 2 (.only 10 .nil))))) (by kernel_rfl) (by decide +kernel) ?_)
  (repeat (first|refine yG (yN ?_)|refine yG (yD 0 rfl rfl rfl rfl rfl ?_)|refine yG (yD 1 rfl rfl rfl rfl rfl ?_)|refine yG (yD 2 rfl rfl rfl rfl rfl ?_)|refine yG (yD 3 rfl rfl rfl rfl rfl ?_)|refine yG (yD 4 rfl rfl rfl rfl rfl ?_)|refine yG (yD 5 rfl rfl rfl rfl rfl ?_)))
  refine VA.go (VA.ldA 5 (entC e) rfl rfl rfl rfl rfl ?_)
  refine VA.go (VA.opP (OpT.buildSlice (n := 1) (pv := [(0, .agg (entC e).toArray)]) (cells := entC e) rfl rfl rfl rfl (by decide) (fill_one rfl rfl rfl)) rfl ?_ ?_)
  · rintro _ _ ⟨nb, rfl, rfl⟩
    exact (by (try refine Pd.st ?_);(repeat (first|exact Pd.nil|exact Pd.fnil|refine Pd.inner ?_|refine Pd.skip (by decide +kernel) ?_|refine zf (zo 0 rfl rfl) ?_|refine zf (zo 1 rfl rfl) ?_|refine zf (zo 2 rfl rfl) ?_|refine zf (zo 3 rfl rfl) ?_|refine zf (zo 4 rfl rfl) ?_|refine zf (zo 5 rfl rfl) ?_|refine zf (zo 6 rfl rfl) ?_|refine zf (zm 0 rfl rfl) ?_|refine zf (zm 1 rfl rfl) ?_|refine zf (zm 2 rfl rfl) ?_|refine zf (zm 3 rfl rfl) ?_|refine zf (zm 4 rfl rfl) ?_|refine zf (zm 5 rfl rfl) ?_|refine zf (zm 6 rfl rfl) ?_|refine zc (zo 0 rfl rfl) ?_|refine zc (zo 1 rfl rfl) ?_|refine zc (zo 2 rfl rfl) ?_|refine zc (zo 3 rfl rfl) ?_|refine zc (zo 4 rfl rfl) ?_|refine zc (zo 5 rfl rfl) ?_|refine zc (zo 6 rfl rfl) ?_|refine zc (zm 0 rfl rfl) ?_|refine zc (zm 1 rfl rfl) ?_|refine zc (zm 2 rfl rfl) ?_|refine zc (zm 3 rfl rfl) ?_|refine zc (zm 4 rfl rfl) ?_|refine zc (zm 5 rfl rfl) ?_|refine zc (zm 6 rfl rfl) ?_)))
  rintro _ _ ⟨nb, rfl, rfl⟩
  refine VA.go (VA.opP (OpT.append (m := 1) (news := entC e) 3 rfl rfl rfl rfl rfl rfl rfl (RdRow.pt 0 rfl rfl rfl) rfl (by show (es.length + 1) * 72 ≤ _; omega) (by omega)) rfl ?_ ?_)
  · rintro _ _ ⟨a1, c1, rfl, hc1, rfl⟩
    exact (by (try refine Pd.st ?_);(repeat (first|exact Pd.nil|exact Pd.fnil|refine Pd.inner ?_|refine Pd.skip (by decide +kernel) ?_|refine zf (zo 0 rfl rfl) ?_|refine zf (zo 1 rfl rfl) ?_|refine zf (zo 2 rfl rfl) ?_|refine zf (zo 3 rfl rfl) ?_|refine zf (zo 4 rfl rfl) ?_|refine zf (zo 5 rfl rfl) ?_|refine zf (zo 6 rfl rfl) ?_|refine zf (zm 0 rfl rfl) ?_|refine zf (zm 1 rfl rfl) ?_|refine zf (zm 2 rfl rfl) ?_|refine zf (zm 3 rfl rfl) ?_|refine zf (zm 4 rfl rfl) ?_|refine zf (zm 5 rfl rfl) ?_|refine zf (zm 6 rfl rfl) ?_|refine zc (zo 0 rfl rfl) ?_|refine zc (zo 1 rfl rfl) ?_|refine zc (zo 2 rfl rfl) ?_|refine zc (zo 3 rfl rfl) ?_|refine zc (zo 4 rfl rfl) ?_|refine zc (zo 5 rfl rfl) ?_|refine zc (zo 6 rfl rfl) ?_|refine zc (zm 0 rfl rfl) ?_|refine zc (zm 1 rfl rfl) ?_|refine zc (zm 2 rfl rfl) ?_|refine zc (zm 3 rfl rfl) ?_|refine zc (zm 4 rfl rfl) ?_|refine zc (zm 5 rfl rfl) ?_|refine zc (zm 6 rfl rfl) ?_)))
  rintro _ _ ⟨a1, c1, rfl, hc1, rfl⟩
  (repeat (first|refine yG (yN ?_)|refine yG (yD 0 rfl rfl rfl rfl rfl ?_)|refine yG (yD 1 rfl rfl rfl rfl rfl ?_)|refine yG (yD 2 rfl rfl rfl rfl rfl ?_)|refine yG (yD 3 rfl rfl rfl rfl rfl ?_)|refine yG (yD 4 rfl rfl rfl rfl rfl ?_)|refine yG (yD 5 rfl rfl rfl rfl rfl ?_)))
  refine VA.go (VA.st 2 (cs' := .pointer (some ⟨x.sp, 0, none⟩) :: .slice a1 (es.length + 1) c1 :: .slice x.a2 (logRun es).2.length x.c2 :: lastsC es) rfl rfl rfl rfl rfl (Nat.le_of_ble_eq_true rfl) rfl rfl (by (try refine Pd.st ?_);(repeat (first|exact Pd.nil|exact Pd.fnil|refine Pd.inner ?_|refine Pd.skip (by decide +kernel) ?_|refine zf (zo 0 rfl rfl) ?_|refine zf (zo 1 rfl rfl) ?_|refine zf (zo 2 rfl rfl) ?_|refine zf (zo 3 rfl rfl) ?_|refine zf (zo 4 rfl rfl) ?_|refine zf (zo 5 rfl rfl) ?_|refine zf (zo 6 rfl rfl) ?_|refine zf (zm 0 rfl rfl) ?_|refine zf (zm 1 rfl rfl) ?_|refine zf (zm 2 rfl rfl) ?_|refine zf (zm 3 rfl rfl) ?_|refine zf (zm 4 rfl rfl) ?_|refine zf (zm 5 rfl rfl) ?_|refine zf (zm 6 rfl rfl) ?_|refine zc (zo 0 rfl rfl) ?_|refine zc (zo 1 rfl rfl) ?_|refine zc (zo 2 rfl rfl) ?_|refine zc (zo 3 rfl rfl) ?_|refine zc (zo 4 rfl rfl) ?_|refine zc (zo 5 rfl rfl) ?_|refine zc (zo 6 rfl rfl) ?_|refine zc (zm 0 rfl rfl) ?_|refine zc (zm 1 rfl rfl) ?_|refine zc (zm 2 rfl rfl) ?_|refine zc (zm 3 rfl rfl) ?_|refine zc (zm 4 rfl rfl) ?_|refine zc (zm 5 rfl rfl) ?_|refine zc (zm 6 rfl rfl) ?_))) ?_)
  (repeat (first|refine yG (yN ?_)|refine yG (yD 0 rfl rfl rfl rfl rfl ?_)|refine yG (yD 1 rfl rfl rfl rfl rfl ?_)|refine yG (yD 2 rfl rfl rfl rfl rfl ?_)|refine yG (yD 3 rfl rfl rfl rfl rfl ?_)|refine yG (yD 4 rfl rfl rfl rfl rfl ?_)|refine yG (yD 5 rfl rfl rfl rfl rfl ?_)))
  refine VC.ent (L' := [pt p (.pointer (some ⟨x.sp, 0, none⟩) :: .slice a1 (es.length + 1) c1 :: .slice x.a2 (logRun es).2.length x.c2 :: lastsC es) logT, kvH x.sp S', slH entT 7 a1 (es.length + 1) c1 (flat entC es ++ entC e), slH resT 4 x.a2 (logRun es).2.length x.c2 (flat resC (logRun es).2), pt rb (resC rr) resT, pt eb (entC e) entT]) (Imp.pick 2 rfl (Imp.pick 2 rfl (Imp.pick 0 rfl (Imp.pick 1 rfl (Imp.pick 1 rfl (Imp.pick 1 rfl Imp.nil)))))).ent ?_
  refine VC.seq (VC.draw (ts 0 6 (.only 6 (.only 7 (ts 8 2 (.only 10 .nil))))) (by kernel_rfl) (by decide +kernel) ?_)
  (repeat (first|refine yG (yN ?_)|refine yG (yD 0 rfl rfl rfl rfl rfl ?_)|refine yG (yD 1 rfl rfl rfl rfl rfl ?_)|refine yG (yD 2 rfl rfl rfl rfl rfl ?_)|refine yG (yD 3 rfl rfl rfl rfl rfl ?_)|refine yG (yD 4 rfl rfl rfl rfl rfl ?_)|refine yG (yD 5 rfl rfl rfl rfl rfl ?_)))
  refine VA.go (VA.ldA 4 (resC rr) rfl rfl rfl rfl rfl ?_)
  refine VA.go (VA.opP (OpT.buildSlice (n := 1) (pv := [(0, .agg (resC rr).toArray)]) (cells := resC rr) rfl rfl rfl rfl (by decide) (fill_one rfl rfl rfl)) rfl ?_ ?_)
  · rintro _ _ ⟨nb, rfl, rfl⟩
    exact (by (try refine Pd.st ?_);(repeat (first|exact Pd.nil|exact Pd.fnil|refine Pd.inner ?_|refine Pd.skip (by decide +kernel) ?_|refine zf (zo 0 rfl rfl) ?_|refine zf (zo 1 rfl rfl) ?_|refine zf (zo 2 rfl rfl) ?_|refine zf (zo 3 rfl rfl) ?_|refine zf (zo 4 rfl rfl) ?_|refine zf (zo 5 rfl rfl) ?_|refine zf (zo 6 rfl rfl) ?_|refine zf (zm 0 rfl rfl) ?_|refine zf (zm 1 rfl rfl) ?_|refine zf (zm 2 rfl rfl) ?_|refine zf (zm 3 rfl rfl) ?_|refine zf (zm 4 rfl rfl) ?_|refine zf (zm 5 rfl rfl) ?_|refine zf (zm 6 rfl rfl) ?_|refine zc (zo 0 rfl rfl) ?_|refine zc (zo 1 rfl rfl) ?_|refine zc (zo 2 rfl rfl) ?_|refine zc (zo 3 rfl rfl) ?_|refine zc (zo 4 rfl rfl) ?_|refine zc (zo 5 rfl rfl) ?_|refine zc (zo 6 rfl rfl) ?_|refine zc (zm 0 rfl rfl) ?_|refine zc (zm 1 rfl rfl) ?_|refine zc (zm 2 rfl rfl) ?_|refine zc (zm 3 rfl rfl) ?_|refine zc (zm 4 rfl rfl) ?_|refine zc (zm 5 rfl rfl) ?_|refine zc (zm 6 rfl rfl) ?_)))
  rintro _ _ ⟨nb, rfl, rfl⟩
  refine VA.go (VA.opP (OpT.append (m := 1) (news := resC rr) 4 rfl rfl rfl rfl rfl rfl rfl (RdRow.pt 0 rfl rfl rfl) rfl (by show ((logRun es).2.length + 1) * 40 ≤ _; omega) (by omega)) rfl ?_ ?_)
  · rintro _ _ ⟨a2, c2, rfl, hc2, rfl⟩
    exact (by (try refine Pd.st ?_);(repeat (first|exact Pd.nil|exact Pd.fnil|refine Pd.inner ?_|refine Pd.skip (by decide +kernel) ?_|refine zf (zo 0 rfl rfl) ?_|refine zf (zo 1 rfl rfl) ?_|refine zf (zo 2 rfl rfl) ?_|refine zf (zo 3 rfl rfl) ?_|refine zf (zo 4 rfl rfl) ?_|refine zf (zo 5 rfl rfl) ?_|refine zf (zo 6 rfl rfl) ?_|refine zf (zm 0 rfl rfl) ?_|refine zf (zm 1 rfl rfl) ?_|refine zf (zm 2 rfl rfl) ?_|refine zf (zm 3 rfl rfl) ?_|refine zf (zm 4 rfl rfl) ?_|refine zf (zm 5 rfl rfl) ?_|refine zf (zm 6 rfl rfl) ?_|refine zc (zo 0 rfl rfl) ?_|refine zc (zo 1 rfl rfl) ?_|refine zc (zo 2 rfl rfl) ?_|refine zc (zo 3 rfl rfl) ?_|refine zc (zo 4 rfl rfl) ?_|refine zc (zo 5 rfl rfl) ?_|refine zc (zo 6 rfl rfl) ?_|refine zc (zm 0 rfl rfl) ?_|refine zc (zm 1 rfl rfl) ?_|refine zc (zm 2 rfl rfl) ?_|refine zc (zm 3 rfl rfl) ?_|refine zc (zm 4 rfl rfl) ?_|refine zc (zm 5 rfl rfl) ?_|refine zc (zm 6 rfl rfl) ?_)))
  rintro _ _ ⟨a2, c2, rfl, hc2, rfl⟩
  (repeat (first|refine yG (yN ?_)|refine yG (yD 0 rfl rfl rfl rfl rfl ?_)|refine yG (yD 1 rfl rfl rfl rfl rfl ?_)|refine yG (yD 2 rfl rfl rfl rfl rfl ?_)|refine yG (yD 3 rfl rfl rfl rfl rfl ?_)|refine yG (yD 4 rfl rfl rfl rfl rfl ?_)|refine yG (yD 5 rfl rfl rfl rfl rfl ?_)))
  refine VA.go (VA.st 2 (cs' := .pointer (some ⟨x.sp, 0, none⟩) :: .slice a1 (es.length + 1) c1 :: .slice a2 ((logRun es).2.length + 1) c2 :: lastsC es) rfl rfl rfl rfl rfl (Nat.le_of_ble_eq_true rfl) rfl rfl (by (try refine Pd.st ?_);(repeat (first|exact Pd.nil|exact Pd.fnil|refine Pd.inner ?_|refine Pd.skip (by decide +kernel) ?_|refine zf (zo 0 rfl rfl) ?_|refine zf (zo 1 rfl rfl) ?_|refine zf (zo 2 rfl rfl) ?_|refine zf (zo 3 rfl rfl) ?_|refine zf (zo 4 rfl rfl) ?_|refine zf (zo 5 rfl rfl) ?_|refine zf (zo 6 rfl rfl) ?_|refine zf (zm 0 rfl rfl) ?_|refine zf (zm 1 rfl rfl) ?_|refine zf (zm 2 rfl rfl) ?_|refine zf (zm 3 rfl rfl) ?_|refine zf (zm 4 rfl rfl) ?_|refine zf (zm 5 rfl rfl) ?_|refine zf (zm 6 rfl rfl) ?_|refine zc (zo 0 rfl rfl) ?_|refine zc (zo 1 rfl rfl) ?_|refine zc (zo 2 rfl rfl) ?_|refine zc (zo 3 rfl rfl) ?_|refine zc (zo 4 rfl rfl) ?_|refine zc (zo 5 rfl rfl) ?_|refine zc (zo 6 rfl rfl) ?_|refine zc (zm 0 rfl rfl) ?_|refine zc (zm 1 rfl rfl) ?_|refine zc (zm 2 rfl rfl) ?_|refine zc (zm 3 rfl rfl) ?_|refine zc (zm 4 rfl rfl) ?_|refine zc (zm 5 rfl rfl) ?_|refine zc (zm 6 rfl rfl) ?_))) ?_)
  (repeat (first|refine yG (yN ?_)|refine yG (yD 0 rfl rfl rfl rfl rfl ?_)|refine yG (yD 1 rfl rfl rfl rfl rfl ?_)|refine yG (yD 2 rfl rfl rfl rfl rfl ?_)|refine yG (yD 3 rfl rfl rfl rfl rfl ?_)|refine yG (yD 4 rfl rfl rfl rfl rfl ?_)|refine yG (yD 5 rfl rfl rfl rfl rfl ?_)))
  refine VC.ent (L' := [pt p (.pointer (some ⟨x.sp, 0, none⟩) :: .slice a1 (es.length + 1) c1 :: .slice a2 ((logRun es).2.length + 1) c2 :: lastsC es) logT, kvH x.sp S', slH entT 7 a1 (es.length + 1) c1 (flat entC es ++ entC e), slH resT 4 a2 ((logRun es).2.length + 1) c2 (flat resC (logRun es).2 ++ resC rr), pt rb (resC rr) resT, pt eb (entC e) entT]) (Imp.pick 2 rfl (Imp.pick 2 rfl (Imp.pick 2 rfl (Imp.pick 0 rfl (Imp.pick 1 rfl (Imp.pick 1 rfl Imp.nil)))))).ent ?_
  refine VC.seq (VC.draw (ts 0 11 (.only 11 .nil)) (by kernel_rfl) (by decide +kernel) ?_)
  (repeat (first|refine yG (yN ?_)|refine yG (yD 0 rfl rfl rfl rfl rfl ?_)|refine yG (yD 1 rfl rfl rfl rfl rfl ?_)|refine yG (yD 2 rfl rfl rfl rfl rfl ?_)|refine yG (yD 3 rfl rfl rfl rfl rfl ?_)|refine yG (yD 4 rfl rfl rfl rfl rfl ?_)|refine yG (yD 5 rfl rfl rfl rfl rfl ?_)))
  refine VA.go (VA.light rfl (light_build (pv := [(0, .int .i64 e.seq), (1, .int .i64 e.index)]) [.int .i64 e.seq, .int .i64 e.index] rfl rfl rfl (by kernel_rfl) rfl) ?_)
  (repeat (first|refine yG (yN ?_)|refine yG (yD 0 rfl rfl rfl rfl rfl ?_)|refine yG (yD 1 rfl rfl rfl rfl rfl ?_)|refine yG (yD 2 rfl rfl rfl rfl rfl ?_)|refine yG (yD 3 rfl rfl rfl rfl rfl ?_)|refine yG (yD 4 rfl rfl rfl rfl rfl ?_)|refine yG (yD 5 rfl rfl rfl rfl rfl ?_)))
  refine VA.go (VA.light rfl (light_idxA c rfl rfl rfl rfl rfl hcc hc6) ?_)
  refine VA.go (VA.stA (vs := [.int .i64 e.seq, .int .i64 e.index]) 0 rfl rfl rfl rfl rfl (by show 0 + 3 + c * 2 + 2 ≤ 15; omega) (lasts_set hc6 hcc _ _ _) rfl rfl (by (try refine Pd.st ?_);(repeat (first|exact Pd.nil|exact Pd.fnil|refine Pd.inner ?_|refine Pd.skip (by decide +kernel) ?_|refine zf (zo 0 rfl rfl) ?_|refine zf (zo 1 rfl rfl) ?_|refine zf (zo 2 rfl rfl) ?_|refine zf (zo 3 rfl rfl) ?_|refine zf (zo 4 rfl rfl) ?_|refine zf (zo 5 rfl rfl) ?_|refine zf (zm 0 rfl rfl) ?_|refine zf (zm 1 rfl rfl) ?_|refine zf (zm 2 rfl rfl) ?_|refine zf (zm 3 rfl rfl) ?_|refine zf (zm 4 rfl rfl) ?_|refine zf (zm 5 rfl rfl) ?_|refine zc (zo 0 rfl rfl) ?_|refine zc (zo 1 rfl rfl) ?_|refine zc (zo 2 rfl rfl) ?_|refine zc (zo 3 rfl rfl) ?_|refine zc (zo 4 rfl rfl) ?_|refine zc (zo 5 rfl rfl) ?_|refine zc (zm 0 rfl rfl) ?_|refine zc (zm 1 rfl rfl) ?_|refine zc (zm 2 rfl rfl) ?_|refine zc (zm 3 rfl rfl) ?_|refine zc (zm 4 rfl rfl) ?_|refine zc (zm 5 rfl rfl) ?_))) ?_)
  (repeat (first|refine yG (yN ?_)|refine yG (yD 0 rfl rfl rfl rfl rfl ?_)|refine yG (yD 1 rfl rfl rfl rfl rfl ?_)|refine yG (yD 2 rfl rfl rfl rfl rfl ?_)|refine yG (yD 3 rfl rfl rfl rfl rfl ?_)|refine yG (yD 4 rfl rfl rfl rfl rfl ?_)|refine yG (yD 5 rfl rfl rfl rfl rfl ?_)))
  (repeat (first|refine zS ?_|refine zR ?_|refine zB ?_|refine zL ?_|refine zC ?_|refine zG (zN ?_)|refine zG (zD 0 rfl rfl rfl rfl ?_)))
  refine VO.go (VO.ldA 4 (resC rr) rfl rfl rfl rfl ?_)
  refine VO.go (VO.stA (vs := resC rr) 4 rfl rfl rfl rfl (Nat.le_refl _) rfl rfl rfl ?_)
  (repeat (first|refine zS ?_|refine zR ?_|refine zB ?_|refine zL ?_|refine zC ?_|refine zG (zN ?_)|refine zG (zD 0 rfl rfl rfl rfl ?_)))
  have hfin : logL p (es ++ [e]) ⟨x.sp, a1, c1, a2, c2⟩ = [pt p (.pointer (some ⟨x.sp, 0, none⟩) :: .slice a1 (es.length + 1) c1 :: .slice a2 ((logRun es).2.length + 1) c2 :: lastsC (es ++ [e])) logT, kvH x.sp S', slH entT 7 a1 (es.length + 1) c1 (flat entC es ++ entC e), slH resT 4 a2 ((logRun es).2.length + 1) c2 (flat resC (logRun es).2 ++ resC rr)] := by
    unfold logL logCs
    rw [hll, hst1, hst2, List.length_append, flat_append, flat_append, flat_cons, flat_nil, flat_cons, flat_nil, List.append_nil, List.append_nil]; rfl
  exact VC.ret (Ret.cellTmp 4 5 rfl rfl rfl (RdL.many (ds := resC rr) 4 rfl rfl) rfl (Imp.log ⟨x.sp, a1, c1, a2, c2⟩ (by rw [hfin]; exact Imp.pick 0 rfl (Imp.pick 0 rfl (Imp.pick 0 rfl (Imp.pick 0 rfl Imp.nil))))).ent ⟨by rw [hrr, hz], by rw [happ]⟩)
end Go.Proofs.YtbbnmgakmcppdaaGreat.Lg
