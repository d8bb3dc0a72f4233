/- Admission: how it is made, what is offered, taken out, and expires. No condition but that those that wait may be. -/
import Derived.Test.YtbbnmgakmcppdaaGreatAdm2
namespace Go.Proofs.YtbbnmgakmcppdaaGreat.Adm
open Go Go.Proofs.YtbbnmgakmcppdaaGreat.Vg Go.Proofs.YtbbnmgakmcppdaaGreat.T Go.Proofs.YtbbnmgakmcppdaaGreat.Api Go.Proofs.YtbbnmgakmcppdaaGreat.Sched Go.Proofs.YtbbnmgakmcppdaaGreat.Conf
set_option linter.unusedSimpArgs false
set_option linter.unusedVariables false
attribute [local irreducible] VO VC VA

theorem adm_in {Fr : Nat → Prop} {w : World} {p sp : Nat} {A : AdmM} (h : A.Wf) (hs : SatIn Fr (admL p A sp) w) : SatIn Fr [admH p A] w := SatIn.shut (φ := fun _ => A.Wf) (Ls := fun sp => admL p A sp) sp h hs
theorem push_len (S : SchM) (f : FrameM) : (S.pushM f).2.cls.length = S.cls.length := by
  unfold SchM.pushM
  split
  · rfl
  · split
    · rfl
    · split
      · simp [SchM.setC]
      · rfl

/-! ### New -/
def newA (c : ConfM) : AdmM := ⟨SchM.new c.qs c.queue, c.clients, List.replicate 6 (0, 0), List.replicate 6 0⟩
theorem conf_new {c : ConfM} (h : c = fitM c) : newOk c.qs c.queue = true ∧ 1 ≤ c.clients ∧ c.clients ≤ 6 := by
  have h1 : c.qs = qFit c.qs := congrArg ConfM.qs h
  have h2 : c.queue = near c.queue 1 16 := congrArg ConfM.queue h
  have h3 : c.clients = near c.clients 1 6 := congrArg ConfM.clients h
  have h4 := qFit_len c.qs
  have h5 := near_in (x := c.queue) (lo := 1) (hi := 16) (by omega)
  have h6 := near_in (x := c.clients) (lo := 1) (hi := 6) (by omega)
  rw [← h1] at h4
  rw [← h2] at h5
  rw [← h3] at h6
  refine ⟨?_, h6⟩
  have h7 : c.qs.all quantumOk = true := by
    rw [List.all_eq_true]
    intro q hq
    rw [h1] at hq
    obtain ⟨x, _, rfl⟩ := List.mem_map.1 hq
    have := near_in (x := x) (lo := 96) (hi := 65536) (by omega)
    simp [quantumOk, qNear, this]
  simp [newOk, h4, h5, h7]
theorem newA_wf {c : ConfM} (h : c = fitM c) : (newA c).Wf := by
  obtain ⟨h1, h2, h3⟩ := conf_new h
  exact ⟨SchM.new_wf h1, h2, h3, rfl, rfl⟩
set_option maxRecDepth 100000 in
theorem new_spec (Fr : Nat → Prop) (w : World) (c : ConfM) (a : Option Addr) (cap : Nat) (hq : IntsIn Fr w a c.qs) (ha : AdOk a) (hcap : c.qs.length ≤ cap) : Tri Tryz.prog 52 [.agg (c.cells a cap).toArray] Fr w []
    (fun v L => if c = fitM c then ∃ p, v = .tuple #[.pointer (some ⟨p, 0, none⟩), .int .i64 0] ∧ L = [admH p (newA c)] else v = .tuple #[.pointer none, .int .i64 2] ∧ L = []) := by
  refine Tri.of 30 Tryz.func52 rfl (by kernel_rfl) tabOk rfl rfl ?_
  refine VC.seq (VC.region (VO.go (VO.boxA (vs := c.cells a cap) rfl fun x => VO.go (VO.nil ?_))))
  (repeat (first|refine zS ?_|refine zR ?_|refine zB ?_|refine zL ?_|refine zC ?_|refine zG (zN ?_)|refine zG (zD 0 rfl rfl rfl rfl ?_)))
  refine VO.go (VO.ldA 0 (c.cells a cap) rfl rfl rfl rfl ?_)
  refine VO.go (VO.callV' (fun Fr w hF hs _ => check_spec Fr w c a cap (ints_of hq hF hs) ha hcap) rfl (VO.go (VO.nil ?_)))
  (repeat (first|refine zS ?_|refine zR ?_|refine zB ?_|refine zL ?_|refine zC ?_|refine zG (zN ?_)|refine zG (zD 0 rfl rfl rfl rfl ?_)))
  refine VC.condNE rfl (fun h1 => ?_) (fun h1 => VC.skip ?_)
  · have hc : ¬ c = fitM c := fun e => h1 (by rw [checkM, if_pos e])
    have hc2 : checkM c = 2 := by rw [checkM, if_neg hc]
    (repeat (first|refine zS ?_|refine zR ?_|refine zB ?_|refine zL ?_|refine zC ?_|refine zG (zN ?_)|refine zG (zD 0 rfl rfl rfl rfl ?_)))
    refine VC.ret (Ret.tmp2 2 3 rfl rfl rfl Imp.nil.ent ?_)
    rw [if_neg hc, hc2]; exact ⟨rfl, rfl⟩
  have hc : c = fitM c := by
    apply Decidable.byContradiction
    intro hc
    rw [checkM, if_neg hc] at h1
    cases h1
  obtain ⟨hok, hc0, hc1⟩ := conf_new hc
  (repeat (first|refine zS ?_|refine zR ?_|refine zB ?_|refine zL ?_|refine zC ?_|refine zG (zN ?_)|refine zG (zD 0 rfl rfl rfl rfl ?_)))
  refine VO.go (VO.call (Lc := []) (fun Fr w hF hs _ => Sched.new_spec Fr w a cap c.qs c.queue (ints_of hq hF hs)) rfl rfl ?_)
  intro v L hv
  unfold newR at hv
  rw [if_pos hok] at hv
  obtain ⟨sp, rfl, rfl⟩ := hv
  (repeat (first|refine zS ?_|refine zR ?_|refine zB ?_|refine zL ?_|refine zC ?_|refine zG (zN ?_)|refine zG (zD 0 rfl rfl rfl rfl ?_)))
  refine VC.condNE rfl (fun h => absurd rfl h) (fun _ => VC.skip ?_)
  (repeat (first|refine zS ?_|refine zR ?_|refine zB ?_|refine zL ?_|refine zC ?_|refine zG (zN ?_)|refine zG (zD 0 rfl rfl rfl rfl ?_)|refine zG (zD 1 rfl rfl rfl rfl ?_)))
  refine VO.go (VO.light (light_build (pv := [(0, .pointer (some ⟨sp, 0, none⟩)), (1, .int .i64 c.clients), (2, .int .i64 c.qs.length)]) (admCs (newA c) sp) rfl rfl rfl (by
    have e : (newA c).sch.cls.length = c.qs.length := by simp [newA, SchM.new]
    simp only [admCs, e]
    rfl) rfl) ?_)
  refine VO.go (VO.boxA (vs := admCs (newA c) sp) rfl fun p => VO.go (VO.nil ?_))
  refine VC.ret (Ret.tmp2 2 3 rfl rfl rfl (L' := [admH p (newA c)]) (adm_shut sp (newA_wf hc) (Imp.app (L := [_, _]) (M := [_, _]) Imp.refl Imp.nil)).ent ?_)
  rw [if_pos hc]; exact ⟨p, rfl, rfl⟩

/-! ### wait, Offer -/
def AdmM.withSch (A : AdmM) (S : SchM) : AdmM := { A with sch := S }
def AdmM.waitM (A : AdmM) (f : FrameM) (now : Int) : Int × AdmM :=
  if A.barred f.client f.seq f.try_ then (7, A) else if A.wt f.client = f.seq then (6, A) else if A.wt f.client ≠ 0 then (1, A) else if f.deadline < now then (2, A)
  else if (A.sch.pushM f).1 ≠ 0 then (1, A.withSch (A.sch.pushM f).2) else (0, (A.withSch (A.sch.pushM f).2).setWt f.client f.seq)
def AdmM.offerM (A : AdmM) (f : FrameM) (now : Int) : Int × AdmM :=
  if A.may f then if (A.waitM f now).1 ≠ 0 ∧ (A.waitM f now).1 ≠ 6 then ((A.waitM f now).1, ((A.waitM f now).2.barM f.client f.seq f.try_).2) else A.waitM f now else (10, A)
theorem AdmM.Wf.withSch {A : AdmM} (h : A.Wf) {S : SchM} (hS : S.Wf) : (A.withSch S).Wf := ⟨hS, h.c0, h.c1, h.marks, h.waits⟩
theorem AdmM.Wf.waitM {A : AdmM} (h : A.Wf) (f : FrameM) (now : Int) : (A.waitM f now).2.Wf := by
  unfold AdmM.waitM
  repeat' split
  all_goals first | exact h | exact h.withSch (push_wf h.sch f) | exact (h.withSch (push_wf h.sch f)).setWt _ _
theorem may_client {A : AdmM} {f : FrameM} (h : A.may f = true) : A.has f.client = true ∧ numM f.seq = true ∧ numM f.try_ = true := by
  simp only [AdmM.may, Bool.and_eq_true] at h
  exact ⟨h.1.1.1.1.1.1.1.1.1, h.1.1.1.1.1.1.1.2, h.1.1.1.1.1.1.2⟩
theorem has_nat {A : AdmM} (h : A.Wf) {k : Int} (hk : A.has k = true) : ∃ n : Nat, k = n ∧ n < 6 := by
  have hk := of_decide_eq_true hk
  obtain ⟨n, rfl⟩ := Int.eq_ofNat_of_zero_le hk.1
  have := h.c1
  exact ⟨n, rfl, by omega⟩
theorem admCs_push {A : AdmM} (f : FrameM) (sp : Nat) : admCs A sp = admCs (A.withSch (A.sch.pushM f).2) sp := by
  simp only [admCs, AdmM.withSch, push_len]

set_option maxRecDepth 100000 in
theorem wait_spec (Fr : Nat → Prop) (w : World) (p : Nat) (A : AdmM) (f : FM) (now : Int) (hm : A.may f.1 = true) : Tri Tryz.prog 223 [.pointer (some ⟨p, 0, none⟩), .agg (fmc f).toArray, .int .i64 now] Fr w [admH p A] (fun v L => v = .int .i64 (A.waitM f.1 now).1 ∧ L = [admH p (A.waitM f.1 now).2]) := by
  refine Tri.of 53 Tryz.func223 rfl (by kernel_rfl) tabOk rfl rfl ?_
  refine VC.seq (VC.region (VO.go (VO.boxA (vs := fmc f) rfl fun b => VO.go (VO.nil ?_))))
  refine VC.opn 1 rfl (HOpn.adm p A) fun sp h => ?_
  refine VC.ent (L' := pt b (fmc f) 46 :: admL p A sp) (Imp.perm List.perm_append_comm).ent ?_
  obtain ⟨hhas, hnum, hnum2⟩ := may_client hm
  obtain ⟨n, hcl, hn⟩ := has_nat h hhas
  have hwt : A.wt f.1.client = A.wt n := by rw [hcl]
  have out : ∀ {X : Cx}, Ent X (pt b (fmc f) 46 :: admL p A sp) [admH p A] := fun {X} => (Imp.trans Imp.tl (adm_shut sp h Imp.refl)).ent
  refine VC.seq (VC.draw (ts 0 8 .nil) (by kernel_rfl) (by decide +kernel) ?_)
  (repeat (first|refine yG (yN ?_)|refine yG (yD 0 rfl rfl rfl rfl rfl ?_)|refine yG (yD 1 rfl rfl rfl rfl rfl ?_)))
  refine VA.go (VA.light rfl (light_idxA n rfl rfl rfl rfl rfl hcl hn) ?_)
  refine VA.go (VA.ld 1 rfl rfl rfl rfl (wt_cell h hn) ?_)
  (repeat (first|refine yG (yN ?_)|refine yG (yD 0 rfl rfl rfl rfl rfl ?_)))
  (repeat (first|refine zS ?_|refine zR ?_|refine zB ?_|refine zL ?_|refine zC ?_|refine zG (zN ?_)|refine zG (zD 0 rfl rfl rfl rfl ?_)|refine zG (zD 1 rfl rfl rfl rfl ?_)))
  refine VO.go (VO.callV' (fun Fr w hF _ hs => barred_spec Fr w f.1.client f.1.seq f.1.try_ (adm_in h hs.tail)) rfl (VO.go (VO.nil ?_)))
  refine VC.cond rfl (fun h1 => ?_) (fun h1 => ?_)
  · have e : A.waitM f.1 now = (7, A) := by unfold AdmM.waitM; rw [if_pos h1]
    (repeat (first|refine zS ?_|refine zR ?_|refine zB ?_|refine zL ?_|refine zC ?_|refine zG (zN ?_)|refine zG (zD 0 rfl rfl rfl rfl ?_)))
    exact VC.ret (Ret.int 6 rfl rfl (by rw [e]) out ⟨rfl, by rw [e]⟩)
  (repeat (first|refine zS ?_|refine zR ?_|refine zB ?_|refine zL ?_|refine zC ?_|refine zG (zN ?_)|refine zG (zD 0 rfl rfl rfl rfl ?_)|refine zG (zD 1 rfl rfl rfl rfl ?_)))
  refine VC.condE rfl (fun h2 => ?_) (fun h2 => ?_)
  · have e : A.waitM f.1 now = (6, A) := by unfold AdmM.waitM; rw [if_neg (by rw [h1]; simp), if_pos (hwt.trans h2)]
    (repeat (first|refine zS ?_|refine zR ?_|refine zB ?_|refine zL ?_|refine zC ?_|refine zG (zN ?_)|refine zG (zD 0 rfl rfl rfl rfl ?_)))
    exact VC.ret (Ret.int 6 rfl rfl (by rw [e]) out ⟨rfl, by rw [e]⟩)
  (repeat (first|refine zS ?_|refine zR ?_|refine zB ?_|refine zL ?_|refine zC ?_|refine zG (zN ?_)|refine zG (zD 0 rfl rfl rfl rfl ?_)|refine zG (zD 1 rfl rfl rfl rfl ?_)))
  refine VC.condNE rfl (fun h3 => ?_) (fun h3 => ?_)
  · have e : A.waitM f.1 now = (1, A) := by unfold AdmM.waitM; rw [if_neg (by rw [h1]; simp), if_neg (by rw [hwt]; exact h2), if_pos (by rw [hwt]; exact h3)]
    (repeat (first|refine zS ?_|refine zR ?_|refine zB ?_|refine zL ?_|refine zC ?_|refine zG (zN ?_)|refine zG (zD 0 rfl rfl rfl rfl ?_)))
    exact VC.ret (Ret.int 6 rfl rfl (by rw [e]) out ⟨rfl, by rw [e]⟩)
  (repeat (first|refine zS ?_|refine zR ?_|refine zB ?_|refine zL ?_|refine zC ?_|refine zG (zN ?_)|refine zG (zD 0 rfl rfl rfl rfl ?_)|refine zG (zD 1 rfl rfl rfl rfl ?_)))
  refine VC.condP rfl (fun h4 => ?_) (fun h4 => ?_)
  · have e : A.waitM f.1 now = (2, A) := by unfold AdmM.waitM; rw [if_neg (by rw [h1]; simp), if_neg (by rw [hwt]; exact h2), if_neg (by rw [hwt]; exact fun x => x h3), if_pos h4]
    (repeat (first|refine zS ?_|refine zR ?_|refine zB ?_|refine zL ?_|refine zC ?_|refine zG (zN ?_)|refine zG (zD 0 rfl rfl rfl rfl ?_)))
    exact VC.ret (Ret.int 6 rfl rfl (by rw [e]) out ⟨rfl, by rw [e]⟩)
  have e0 : A.waitM f.1 now = if (A.sch.pushM f.1).1 ≠ 0 then (1, A.withSch (A.sch.pushM f.1).2) else (0, (A.withSch (A.sch.pushM f.1).2).setWt f.1.client f.1.seq) := by
    unfold AdmM.waitM; rw [if_neg (by rw [h1]; simp), if_neg (by rw [hwt]; exact h2), if_neg (by rw [hwt]; exact fun x => x h3), if_neg h4]
  have hwf := h.withSch (push_wf h.sch f.1)
  refine VC.seq (VC.draw (ts 0 5 (.only 5 (ts 6 2 .nil))) (by kernel_rfl) (by decide +kernel) ?_)
  (repeat (first|refine yG (yN ?_)|refine yG (yD 0 rfl rfl rfl rfl rfl ?_)|refine yG (yD 1 rfl rfl rfl rfl rfl ?_)))
  refine VA.go (VA.ldA 0 (fmc f) rfl rfl rfl rfl rfl ?_)
  refine VA.go (VA.callAt 2 (ψ := fun v H => v = .int .i64 (A.sch.pushM f.1).1 ∧ H = schH sp (A.sch.pushM f.1).2) rfl (fun Fr w _ _ _ => Sched.push_spec Fr w sp A.sch f) rfl rfl (fun v L1 h => ⟨_, h.2, h.1, rfl⟩) ?_ ?_)
  · rintro _ _ ⟨rfl, rfl⟩
    exact (by (try refine Pd.st ?_);(repeat (first|exact Pd.nil|exact Pd.fnil|refine Pd.inner ?_|refine Pd.skip (by decide +kernel) ?_|refine zf (zo 0 rfl rfl) ?_|refine zf (zo 1 rfl rfl) ?_|refine zf (zm 0 rfl rfl) ?_|refine zf (zm 1 rfl rfl) ?_|refine zc (zo 0 rfl rfl) ?_|refine zc (zo 1 rfl rfl) ?_|refine zc (zm 0 rfl rfl) ?_|refine zc (zm 1 rfl rfl) ?_)))
  rintro _ _ ⟨rfl, rfl⟩
  (repeat (first|refine yG (yN ?_)|refine yG (yD 0 rfl rfl rfl rfl rfl ?_)))
  refine VC.condNE rfl (fun h5 => ?_) (fun h5 => VC.skip ?_)
  · have e : A.waitM f.1 now = (1, A.withSch (A.sch.pushM f.1).2) := by rw [e0, if_pos h5]
    (repeat (first|refine zS ?_|refine zR ?_|refine zB ?_|refine zL ?_|refine zC ?_|refine zG (zN ?_)|refine zG (zD 0 rfl rfl rfl rfl ?_)))
    refine VC.ret (Ret.int 6 rfl rfl (by rw [e]) (Imp.trans Imp.tl (adm_shut sp hwf (Imp.of_eq ?_))).ent ⟨rfl, by rw [e]⟩)
    rw [admL, admCs_push f.1 sp]; rfl
  have e : A.waitM f.1 now = (0, (A.withSch (A.sch.pushM f.1).2).setWt n f.1.seq) := by rw [e0, if_neg (fun x => x h5), hcl]
  refine VC.seq (VC.draw (ts 0 8 (.only 8 .nil)) (by kernel_rfl) (by decide +kernel) ?_)
  (repeat (first|refine yG (yN ?_)|refine yG (yD 0 rfl rfl rfl rfl rfl ?_)|refine yG (yD 1 rfl rfl rfl rfl rfl ?_)))
  refine VA.go (VA.light rfl (light_idxA n rfl rfl rfl rfl rfl hcl hn) ?_)
  refine VA.go (VA.st 1 rfl rfl rfl rfl rfl (by rw [admCs_len h]; show 0 + 15 + n * 1 < 21; omega) (cs' := admCs ((A.withSch (A.sch.pushM f.1).2).setWt n f.1.seq) sp) (by rw [admCs_push f.1 sp]; exact wt_set hwf hn f.1.seq) rfl (by (try refine Pd.st ?_);(repeat (first|exact Pd.nil|exact Pd.fnil|refine Pd.inner ?_|refine Pd.skip (by decide +kernel) ?_|refine zf (zo 0 rfl rfl) ?_|refine zf (zo 1 rfl rfl) ?_|refine zf (zm 0 rfl rfl) ?_|refine zf (zm 1 rfl rfl) ?_|refine zc (zo 0 rfl rfl) ?_|refine zc (zo 1 rfl rfl) ?_|refine zc (zm 0 rfl rfl) ?_|refine zc (zm 1 rfl rfl) ?_))) ?_)
  (repeat (first|refine yG (yN ?_)|refine yG (yD 0 rfl rfl rfl rfl rfl ?_)))
  (repeat (first|refine zS ?_|refine zR ?_|refine zB ?_|refine zL ?_|refine zC ?_|refine zG (zN ?_)|refine zG (zD 0 rfl rfl rfl rfl ?_)))
  exact VC.ret (Ret.int 6 rfl rfl (by rw [e]) (Imp.trans Imp.tl (adm_shut sp (hwf.setWt n f.1.seq) (Imp.of_eq rfl))).ent ⟨rfl, by rw [e]⟩)

set_option maxRecDepth 100000 in
theorem offer_spec (Fr : Nat → Prop) (w : World) (p : Nat) (A : AdmM) (f : FM) (now : Int) : Tri Tryz.prog 199 [.pointer (some ⟨p, 0, none⟩), .agg (fmc f).toArray, .int .i64 now] Fr w [admH p A] (fun v L => v = .int .i64 (A.offerM f.1 now).1 ∧ L = [admH p (A.offerM f.1 now).2]) := by
  refine Tri.of 31 Tryz.func199 rfl (by kernel_rfl) tabOk rfl rfl ?_
  refine VC.seq (VC.region (VO.go (VO.boxA (vs := fmc f) rfl fun b => VO.go (VO.nil ?_))))
  (repeat (first|refine zS ?_|refine zR ?_|refine zB ?_|refine zL ?_|refine zC ?_|refine zG (zN ?_)|refine zG (zD 0 rfl rfl rfl rfl ?_)))
  refine VO.go (VO.ldA 0 (fmc f) rfl rfl rfl rfl ?_)
  refine VO.go (VO.callV' (fun Fr w hF _ hs => may_spec Fr w f (hs.at_ 1 rfl)) rfl (VO.go (VO.nil ?_)))
  refine VC.condN rfl (fun h1 => ?_) (fun h1 => VC.skip ?_)
  · have e : A.offerM f.1 now = (10, A) := by unfold AdmM.offerM; rw [if_neg (by rw [h1]; simp)]
    (repeat (first|refine zS ?_|refine zR ?_|refine zB ?_|refine zL ?_|refine zC ?_|refine zG (zN ?_)|refine zG (zD 0 rfl rfl rfl rfl ?_)))
    exact VC.ret (Ret.int 6 rfl rfl (by rw [e]) (L' := [admH p A]) Imp.tl.ent ⟨rfl, by rw [e]⟩)
  (repeat (first|refine zS ?_|refine zR ?_|refine zB ?_|refine zL ?_|refine zC ?_|refine zG (zN ?_)|refine zG (zD 0 rfl rfl rfl rfl ?_)))
  refine VO.go (VO.ldA 0 (fmc f) rfl rfl rfl rfl ?_)
  refine VO.go (VO.callAt 1 (ψ := fun v H => v = .int .i64 (A.waitM f.1 now).1 ∧ H = admH p (A.waitM f.1 now).2) rfl (fun Fr w _ _ _ => wait_spec Fr w p A f now h1) rfl (fun v L1 h => ⟨_, h.2, h.1, rfl⟩) ?_)
  rintro _ _ ⟨rfl, rfl⟩
  have e0 : A.offerM f.1 now = if (A.waitM f.1 now).1 ≠ 0 ∧ (A.waitM f.1 now).1 ≠ 6 then ((A.waitM f.1 now).1, ((A.waitM f.1 now).2.barM f.1.client f.1.seq f.1.try_).2) else A.waitM f.1 now := by unfold AdmM.offerM; rw [if_pos h1]
  (repeat (first|refine zS ?_|refine zR ?_|refine zB ?_|refine zL ?_|refine zC ?_|refine zG (zN ?_)|refine zG (zD 0 rfl rfl rfl rfl ?_)))
  refine VO.go (VO.split 18 rfl rfl (fun h2 => ?_) (fun h2 => ?_))
  · have h2 : (A.waitM f.1 now).1 ≠ 0 := by simpa using h2
    refine VO.go (VO.nil (VC.condNE rfl (fun h3 => ?_) (fun h3 => VC.skip ?_)))
    · have e : A.offerM f.1 now = ((A.waitM f.1 now).1, ((A.waitM f.1 now).2.barM f.1.client f.1.seq f.1.try_).2) := by rw [e0, if_pos ⟨h2, h3⟩]
      (repeat (first|refine zS ?_|refine zR ?_|refine zB ?_|refine zL ?_|refine zC ?_|refine zG (zN ?_)|refine zG (zD 0 rfl rfl rfl rfl ?_)))
      refine VO.go (VO.callAt 1 (ψ := fun v H => H = admH p ((A.waitM f.1 now).2.barM f.1.client f.1.seq f.1.try_).2) rfl (fun Fr w _ _ _ => bar_spec Fr w p _ _ _ _) rfl (fun v L1 h => ⟨_, h.2, rfl⟩) ?_)
      rintro _ _ rfl
      (repeat (first|refine zS ?_|refine zR ?_|refine zB ?_|refine zL ?_|refine zC ?_|refine zG (zN ?_)|refine zG (zD 0 rfl rfl rfl rfl ?_)))
      exact VC.ret (Ret.int 6 rfl rfl (by rw [e]) (L' := [_]) Imp.tl.ent ⟨rfl, by rw [e]⟩)
    · have e : A.offerM f.1 now = A.waitM f.1 now := by rw [e0, if_neg (fun x => x.2 h3)]
      (repeat (first|refine zS ?_|refine zR ?_|refine zB ?_|refine zL ?_|refine zC ?_|refine zG (zN ?_)|refine zG (zD 0 rfl rfl rfl rfl ?_)))
      exact VC.ret (Ret.int 6 rfl rfl (by rw [e]) (L' := [_]) Imp.tl.ent ⟨rfl, by rw [e]⟩)
  · have h2 : (A.waitM f.1 now).1 = 0 := by simpa using h2
    have e : A.offerM f.1 now = A.waitM f.1 now := by rw [e0, if_neg (fun x => x.1 h2)]
    (repeat (first|refine zS ?_|refine zR ?_|refine zB ?_|refine zL ?_|refine zC ?_|refine zG (zN ?_)|refine zG (zD 0 rfl rfl rfl rfl ?_)))
    refine VC.condF rfl (VC.skip ?_)
    (repeat (first|refine zS ?_|refine zR ?_|refine zB ?_|refine zL ?_|refine zC ?_|refine zG (zN ?_)|refine zG (zD 0 rfl rfl rfl rfl ?_)))
    exact VC.ret (Ret.int 6 rfl rfl (by rw [e]) (L' := [_]) Imp.tl.ent ⟨rfl, by rw [e]⟩)
end Go.Proofs.YtbbnmgakmcppdaaGreat.Adm
