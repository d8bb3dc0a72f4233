/- Admission: what expires, and what is taken out. Condition: those that wait may be. -/
import Derived.Test.YtbbnmgakmcppdaaGreatAdm3
import Derived.Test.YtbbnmgakmcppdaaGreatSchedV
namespace Go.Proofs.YtbbnmgakmcppdaaGreat.Adm
open Go Go.Proofs.YtbbnmgakmcppdaaGreat.Vg Go.Proofs.YtbbnmgakmcppdaaGreat.T Go.Proofs.YtbbnmgakmcppdaaGreat.Api Go.Proofs.YtbbnmgakmcppdaaGreat.Sched Go.Proofs.YtbbnmgakmcppdaaGreat.Conf
set_option linter.unusedSimpArgs false
set_option linter.unusedVariables false
attribute [local irreducible] VO VC VA

def okC (n : Int) (f : FrameM) : Prop := (0 ≤ f.client ∧ f.client < n) ∧ numM f.seq = true ∧ numM f.try_ = true
def AdmM.Calls (A : AdmM) : Prop := ∀ q ∈ A.sch.qs, ∀ f ∈ q, okC A.clients f
def AdmM.out (A : AdmM) (f : FrameM) : AdmM := (A.setWt f.client 0).barF f.client f.seq f.try_
def AdmM.expF (A : AdmM) (l : List FrameM) : AdmM := l.foldl AdmM.out A
def AdmM.expireM (A : AdmM) (now : Int) : AdmM := (A.withSch (A.sch.expM now)).expF (A.sch.goneM now)
theorem AdmM.Wf.out {A : AdmM} (h : A.Wf) (f : FrameM) : (A.out f).Wf := (h.setWt _ _).barF _ _ _
theorem barF_clients (A : AdmM) (k s t : Int) : (A.barF k s t).clients = A.clients := by unfold AdmM.barF; split <;> rfl
theorem barF_sch (A : AdmM) (k s t : Int) : (A.barF k s t).sch = A.sch := by unfold AdmM.barF; split <;> rfl
theorem barF_waits (A : AdmM) (k s t : Int) : (A.barF k s t).waits = A.waits := by unfold AdmM.barF; split <;> rfl
theorem out_clients (A : AdmM) (f : FrameM) : (A.out f).clients = A.clients := by rw [AdmM.out, barF_clients]; rfl
theorem out_sch (A : AdmM) (f : FrameM) : (A.out f).sch = A.sch := by rw [AdmM.out, barF_sch]; rfl
theorem expF_keeps : ∀ (l : List FrameM) {A : AdmM}, A.Wf → (A.expF l).Wf ∧ (A.expF l).clients = A.clients ∧ (A.expF l).sch = A.sch
  | [], A, h => ⟨h, rfl, rfl⟩
  | f :: l, A, h => by
    have := expF_keeps l (h.out f)
    rw [out_clients, out_sch] at this
    exact this
theorem expF_snoc (A : AdmM) (l : List FrameM) (f : FrameM) : A.expF (l ++ [f]) = (A.expF l).out f := by simp [AdmM.expF]
theorem exp_len (S : SchM) (now : Int) : (S.expM now).cls.length = S.cls.length := by simp [SchM.expM]
theorem expire_wf {A : AdmM} (h : A.Wf) (now : Int) : (A.expireM now).Wf ∧ (A.expireM now).clients = A.clients ∧ (A.expireM now).sch = A.sch.expM now :=
  expF_keeps _ (h.withSch (exp_wf h.sch now))
theorem gone_ok {A : AdmM} (hc : A.Calls) (now : Int) : ∀ f ∈ A.sch.goneM now, okC A.clients f := fun f hf => by
  rw [gone_qs] at hf
  obtain ⟨q, hq, hf⟩ := List.mem_flatMap.1 hf
  exact hc q hq f (List.mem_filter.1 hf).1
theorem bar_ok {A : AdmM} {f : FrameM} (h : okC A.clients f) : (A.barM f.client f.seq f.try_) = (0, A.barF f.client f.seq f.try_) := by
  have h1 : A.has f.client = true := by simp [AdmM.has, h.1]
  simp [AdmM.barM, h1, h.2.1, h.2.2]
theorem admCs_exp {A : AdmM} (now : Int) (sp : Nat) : admCs A sp = admCs (A.withSch (A.sch.expM now)) sp := by
  simp only [admCs, AdmM.withSch, exp_len]
def goneL (p : Nat) (A : AdmM) (gs : List FrameM) (v : Value) (L : List HP) : Prop := ∃ r : RL FM, r.Ok fmc 29 ∧ r.xs.map Prod.fst = gs ∧ v = r.v ∧ L = [r.h 46, admH p A]

set_option maxRecDepth 100000 in
theorem expire_spec (Fr : Nat → Prop) (w : World) (p : Nat) (A : AdmM) (now : Int) (hC : A.Calls) : Tri Tryz.prog 203 [.pointer (some ⟨p, 0, none⟩), .int .i64 now] Fr w [admH p A] (goneL p (A.expireM now) (A.sch.goneM now)) := by
  refine Tri.of 36 Tryz.func203 rfl (by kernel_rfl) tabOk rfl rfl ?_
  refine VC.opn 0 rfl (HOpn.adm p A) fun sp h => ?_
  refine VC.ent (L' := admL p A sp) (Imp.of_eq (List.append_nil _)).ent ?_
  have hwf := h.withSch (exp_wf h.sch now)
  refine VC.seq (VC.region (VO.go (VO.nil ?_)))
  refine VC.meet (σ := RL FM) (fun r => [(0, .pointer (some ⟨p, 0, none⟩)), (5, r.v)]) (fun r => [r.h 46, admH p (A.withSch (A.sch.expM now))]) (fun r => r.Ok fmc 29 ∧ r.xs.map Prod.fst = A.sch.goneM now) ?_ ?_
  · (repeat (first|refine zS ?_|refine zR ?_|refine zB ?_|refine zL ?_|refine zC ?_|refine zG (zN ?_)|refine zG (zD 0 rfl rfl rfl rfl ?_)))
    refine VO.ent (L' := [schH sp A.sch, pt p (admCs A sp) 184]) (Imp.perm (List.Perm.swap _ _ _)).ent ?_
    refine VO.go (VO.call (Lc := [schH sp A.sch]) (fun Fr w _ _ _ => Sched.expire_spec Fr w sp A.sch now) rfl rfl ?_)
    rintro _ _ ⟨a, c, gs, hgs, rfl, rfl⟩
    refine VO.opn 1 rfl (HOpn.rl _ a c gs fmc_len) fun r ⟨hok, hv, hx⟩ => ?_
    refine VO.go (VO.nil ⟨r, ⟨hok, by rw [hx, hgs]⟩, Sub.cons rfl (Sub.cons (by rw [hv]; rfl) (Sub.nil _)), ?_⟩)
    refine (Imp.cons (adm_shut sp hwf ?_)).ent
    show Imp [schH sp (A.sch.expM now), pt p (admCs A sp) 184] _
    rw [admCs_exp now sp]
    exact Imp.perm (List.Perm.swap _ _ _)
  rintro r ⟨hok, hgs⟩
  have hgok := gone_ok hC now
  have hfew := h.sch.fewG A.sch.cls.length now
  rw [List.take_length] at hfew
  have hl : r.xs.length ≤ 64 := by
    have := congrArg List.length hgs
    rw [List.length_map] at this
    rw [this]; exact hfew
  (repeat (first|refine zS ?_|refine zR ?_|refine zB ?_|refine zL ?_|refine zC ?_|refine zG (zN ?_)|refine zG (zD 0 rfl rfl rfl rfl ?_)))
  refine VC.loop (σ := Nat) (fun i => [(0, .pointer (some ⟨p, 0, none⟩)), (5, r.v), (14, r.v), (15, .int .i64 r.xs.length), (16, .int .i64 i)]) (fun i => [r.h 46, admH p ((A.withSch (A.sch.expM now)).expF ((A.sch.goneM now).take i))]) (fun i => i ≤ r.xs.length) (fun i => r.xs.length - i) 0 (Nat.zero_le _) (Sub.cons rfl (Sub.cons rfl (Sub.cons rfl (Sub.cons rfl (Sub.cons rfl (Sub.nil _)))))) Ent.refl ?_
  intro i hi
  (repeat (first|refine zS ?_|refine zR ?_|refine zB ?_|refine zL ?_|refine zC ?_|refine zG (zN ?_)|refine zG (zD 0 rfl rfl rfl rfl ?_)))
  refine VC.condP rfl (fun h1 => VC.skip ?_) (fun h1 => VC.exit ?_)
  · have hi2 : i < r.xs.length := by omega
    obtain ⟨⟨f, m⟩, hx⟩ : ∃ x, r.xs[i]? = some x := ⟨_, List.getElem?_eq_getElem hi2⟩
    obtain ⟨bk, off, hbk, had, hrow⟩ := hok.nth hx
    have hg : (A.sch.goneM now)[i]? = some f := by rw [← hgs, List.getElem?_map, hx]; rfl
    have hf := hgok f (List.mem_of_getElem? hg)
    have htake : (A.sch.goneM now).take (i + 1) = (A.sch.goneM now).take i ++ [f] := by rw [List.take_add_one, hg]; rfl
    obtain ⟨hAwf, hAc, hAs⟩ := expF_keeps ((A.sch.goneM now).take i) hwf
    have hnext : (A.withSch (A.sch.expM now)).expF ((A.sch.goneM now).take (i + 1)) = ((A.withSch (A.sch.expM now)).expF ((A.sch.goneM now).take i)).out f := by rw [htake, expF_snoc]
    generalize hB : (A.withSch (A.sch.expM now)).expF ((A.sch.goneM now).take i) = B at hAwf hAc hAs ⊢
    have hBc : B.clients = A.clients := hAc
    obtain ⟨n, hcl⟩ := Int.eq_ofNat_of_zero_le hf.1.1
    have hn : n < 6 := by have := hf.1.2; have := h.c1; omega
    have hv : r.v = .slice (some ⟨bk, off, none⟩) r.xs.length r.cap := by rw [RL.v, had]
    have hv' : some r.v = some (.slice (some ⟨bk, off, none⟩) r.xs.length r.cap) := by rw [hv]
    refine VC.opn 1 rfl (HOpn.adm p B) fun sp2 h2 => ?_
    refine VC.ent (L' := pt p (admCs B sp2) 184 :: schH sp2 B.sch :: r.h 46 :: []) Ent.refl ?_
    rw [RL.h_pt hbk]
    refine VC.seq (VC.block ?_)
    refine VC.seq (VC.region ?_)
    refine VO.go (VO.light (light_idx i hv' rfl rfl rfl rfl rfl hi2) ?_)
    refine VO.go (VO.load rfl rfl (v := .agg (fmc (f, m)).toArray) (RdL.many 2 rfl hrow) ?_)
    refine VO.go (VO.alloc rfl fun b7 => VO.go (VO.stA (vs := fmc (f, m)) (cs' := fmc (f, m)) 0 rfl rfl rfl rfl (Nat.le_refl _) rfl rfl rfl (VO.go (VO.nil ?_))))
    refine VC.seq (VC.draw (ts 0 6 (.only 6 .nil)) (by kernel_rfl) (by decide +kernel) ?_)
    (repeat (first|refine yG (yN ?_)|refine yG (yD 0 rfl rfl rfl rfl rfl ?_)))
    refine VA.go (VA.light rfl (light_idxA n rfl rfl rfl rfl rfl hcl hn) ?_)
    refine VA.go (VA.st 1 rfl rfl rfl rfl rfl (by rw [admCs_len h2]; show 0 + 15 + n * 1 < 21; omega) (cs' := admCs (B.setWt n 0) sp2) (wt_set h2 hn 0) rfl (by (try refine Pd.st ?_);(repeat (first|exact Pd.nil|exact Pd.fnil|refine Pd.inner ?_|refine Pd.skip (by decide +kernel) ?_|refine zf (zo 0 rfl rfl) ?_|refine zf (zm 0 rfl rfl) ?_|refine zc (zo 0 rfl rfl) ?_|refine zc (zm 0 rfl rfl) ?_))) (VA.go (VA.nil ?_)))
    refine VC.region ?_
    refine VO.ent (L' := [pt b7 (fmc (f, m)) 46, admH p (B.setWt n 0), pt bk r.cells 46]) (Imp.cons (Imp.trans (Imp.perm (List.perm_append_comm (l₁ := [_, _]) (l₂ := [_]))) (Imp.trans (Imp.cons (adm_shut sp2 (h2.setWt n 0) Imp.refl)) (Imp.perm (List.Perm.swap _ _ _))))).ent ?_
    refine VO.go (VO.ld 0 rfl rfl rfl rfl (VO.go (VO.ld 0 rfl rfl rfl rfl (VO.go (VO.ld 0 rfl rfl rfl rfl ?_)))))
    refine VO.go (VO.callAt 1 (ψ := fun v H => H = admH p (B.out f)) rfl (fun Fr w _ _ _ => bar_spec Fr w p (B.setWt n 0) _ _ _) rfl (fun v L1 h => ⟨_, h.2, ?_⟩) ?_)
    · have e : B.setWt n 0 = B.setWt f.client 0 := by rw [hcl]
      have := bar_ok (A := B.setWt f.client 0) (f := f) (by show okC B.clients f; rw [hBc]; exact hf)
      rw [e]
      show admH p ((B.setWt f.client 0).barM f.client f.seq f.try_).2 = _
      rw [this]; rfl
    rintro _ _ rfl
    refine VO.go (VO.nil ?_)
    (repeat (first|refine zS ?_|refine zR ?_|refine zB ?_|refine zL ?_|refine zC ?_|refine zG (zN ?_)|refine zG (zD 0 rfl rfl rfl rfl ?_)))
    refine VO.go (VO.add rfl rfl (by omega) (by omega) ?_)
    (repeat (first|refine zS ?_|refine zR ?_|refine zB ?_|refine zL ?_|refine zC ?_|refine zG (zN ?_)|refine zG (zD 0 rfl rfl rfl rfl ?_)))
    refine ⟨i + 1, hi2, by dsimp only; omega, Sub.cons rfl (Sub.cons rfl (Sub.cons rfl (Sub.cons rfl (Sub.cons rfl (Sub.nil _))))), ?_⟩
    dsimp only
    rw [hnext, hB]
    exact (Imp.trans Imp.tl (Imp.perm (List.Perm.swap _ _ _))).ent
  · have hi2 : i = r.xs.length := by omega
    subst hi2
    have e : (A.sch.goneM now).take r.xs.length = A.sch.goneM now := by rw [List.take_of_length_le]; rw [← hgs]; simp
    rw [e]
    (repeat (first|refine zS ?_|refine zR ?_|refine zB ?_|refine zL ?_|refine zC ?_|refine zG (zN ?_)|refine zG (zD 0 rfl rfl rfl rfl ?_)))
    exact VC.ret (Ret.tmp 4 rfl rfl Ent.refl ⟨r, hok, hgs, rfl, rfl⟩)

/-! ### Next, Flush -/
def AdmM.nextM (A : AdmM) (now : Int) : AdmM :=
  if (popV (A.expireM now).sch).2.1 then ((A.expireM now).withSch (popV (A.expireM now).sch).2.2).setWt (popV (A.expireM now).sch).1.client 0 else (A.expireM now).withSch (popV (A.expireM now).sch).2.2
theorem exp_calls {A : AdmM} (h : A.Wf) (hC : A.Calls) (now : Int) : (A.expireM now).Calls := by
  obtain ⟨_, h2, h3⟩ := expire_wf h now
  intro q hq f hf
  rw [h3, exp_qs] at hq
  obtain ⟨q0, hq0, rfl⟩ := List.mem_map.1 hq
  rw [h2]
  exact hC q0 hq0 f (List.mem_filter.1 hf).1
theorem admCs_withSch {A : AdmM} {S : SchM} (hl : S.cls.length = A.sch.cls.length) (sp : Nat) : admCs A sp = admCs (A.withSch S) sp := by
  simp only [admCs, AdmM.withSch, hl]
theorem next_wf {A : AdmM} (h : A.Wf) (now : Int) : (A.nextM now).Wf := by
  obtain ⟨h1, _, _⟩ := expire_wf h now
  unfold AdmM.nextM
  split
  · exact (h1.withSch (popV_wf h1.sch)).setWt _ _
  · exact h1.withSch (popV_wf h1.sch)
def nextR (p : Nat) (A : AdmM) (now : Int) (v : Value) (L : List HP) : Prop := ∃ (r : RL FM) (m : MemS), r.Ok fmc 29 ∧ r.xs.map Prod.fst = A.sch.goneM now ∧ v = .tuple #[.agg (fmc ((popV (A.expireM now).sch).1, m)).toArray, .bool (popV (A.expireM now).sch).2.1, r.v] ∧ L = [r.h 46, admH p (A.nextM now)]

set_option maxRecDepth 100000 in
theorem next_spec (Fr : Nat → Prop) (w : World) (p : Nat) (A : AdmM) (now : Int) (hw : A.Wf) (hC : A.Calls) : Tri Tryz.prog 162 [.pointer (some ⟨p, 0, none⟩), .int .i64 now] Fr w [admH p A] (nextR p A now) := by
  refine Tri.of 31 Tryz.func162 rfl (by kernel_rfl) tabOk rfl rfl ?_
  refine VC.seq (VC.region (VO.go (VO.alloc rfl fun b => VO.go (VO.nil ?_))))
  (repeat (first|refine zS ?_|refine zR ?_|refine zB ?_|refine zL ?_|refine zC ?_|refine zG (zN ?_)|refine zG (zD 0 rfl rfl rfl rfl ?_)))
  refine VO.go (VO.callV' (u := .bool false) (fun Fr w hF _ hs => by
    obtain ⟨sp, h⟩ := AdmIn.of (hs.at_ 1 rfl)
    exact none_spec Fr w h.at0) rfl (VO.go (VO.nil (VC.condF rfl (VC.skip ?_)))))
  (repeat (first|refine zS ?_|refine zR ?_|refine zB ?_|refine zL ?_|refine zC ?_|refine zG (zN ?_)|refine zG (zD 0 rfl rfl rfl rfl ?_)))
  refine VO.ent (L' := [admH p A, pt b (fmc fmz) 46]) (Imp.perm (List.Perm.swap _ _ _)).ent ?_
  refine VO.go (VO.call (Lc := [admH p A]) (fun Fr w _ _ _ => expire_spec Fr w p A now hC) rfl rfl ?_)
  rintro _ _ ⟨r, hok, hgs, rfl, rfl⟩
  obtain ⟨hE, hEc, hEs⟩ := expire_wf hw now
  have hEC := exp_calls hw hC now
  have hnext : A.nextM now = if (popV (A.expireM now).sch).2.1 then ((A.expireM now).withSch (popV (A.expireM now).sch).2.2).setWt (popV (A.expireM now).sch).1.client 0 else (A.expireM now).withSch (popV (A.expireM now).sch).2.2 := rfl
  have hR : ∀ (m : MemS), nextR p A now (.tuple #[.agg (fmc ((popV (A.expireM now).sch).1, m)).toArray, .bool (popV (A.expireM now).sch).2.1, r.v]) [r.h 46, admH p (A.nextM now)] := fun m => ⟨r, m, hok, hgs, rfl, rfl⟩
  rw [hnext] at hR
  clear hnext
  generalize A.expireM now = B at hE hEc hEs hEC hR ⊢
  refine VO.go (VO.nil ?_)
  refine VC.opn 1 rfl (HOpn.adm p B) fun sp h => ?_
  refine VC.ent (L' := [pt p (admCs B sp) 184, schH sp B.sch, r.h 46, pt b (fmc fmz) 46]) Ent.refl ?_
  (repeat (first|refine zS ?_|refine zR ?_|refine zB ?_|refine zL ?_|refine zC ?_|refine zG (zN ?_)|refine zG (zD 0 rfl rfl rfl rfl ?_)))
  refine VO.go (VO.callAt 1 (ψ := fun v H => (∃ m, v = .tuple #[.agg (fmc ((popV B.sch).1, m)).toArray, .bool (popV B.sch).2.1]) ∧ H = schH sp (popV B.sch).2.2) rfl (fun Fr w _ _ _ => Sched.pop_any Fr w sp B.sch h.sch) rfl (fun v L1 h => popV_s h) ?_)
  rintro _ _ ⟨⟨m, rfl⟩, rfl⟩
  refine VO.go (VO.stA (vs := fmc ((popV B.sch).1, m)) (cs' := fmc ((popV B.sch).1, m)) 3 rfl rfl rfl rfl (Nat.le_refl _) rfl rfl rfl (VO.go (VO.nil ?_)))
  have hS1 := popV_wf h.sch
  have hwf := h.withSch hS1
  have hcs := admCs_withSch (popV_len h.sch) sp
  (repeat (first|refine zS ?_|refine zR ?_|refine zB ?_|refine zL ?_|refine zC ?_|refine zG (zN ?_)|refine zG (zD 0 rfl rfl rfl rfl ?_)))
  refine VC.cond rfl (fun h1 => ?_) (fun h1 => VC.skip ?_)
  · obtain ⟨k, q, hk, _⟩ := popV_ok h.sch h1
    have hf : okC B.clients (popV B.sch).1 := hEC _ (List.mem_of_getElem? hk) _ (by simp)
    obtain ⟨n, hcl⟩ := Int.eq_ofNat_of_zero_le hf.1.1
    have hn : n < 6 := by have := hf.1.2; have := h.c1; omega
    rw [if_pos h1, hcl] at hR
    refine VC.draw (ts 0 6 (.only 6 .nil)) (by kernel_rfl) (by decide +kernel) ?_
    (repeat (first|refine yG (yN ?_)|refine yG (yD 0 rfl rfl rfl rfl rfl ?_)|refine yG (yD 1 rfl rfl rfl rfl rfl ?_)|refine yG (yD 2 rfl rfl rfl rfl rfl ?_)|refine yG (yD 3 rfl rfl rfl rfl rfl ?_)))
    refine VA.go (VA.light rfl (light_idxA n rfl rfl rfl rfl rfl hcl hn) ?_)
    refine VA.go (VA.st 0 rfl rfl rfl rfl rfl (by rw [admCs_len h]; show 0 + 15 + n * 1 < 21; omega) (cs' := admCs ((B.withSch (popV B.sch).2.2).setWt n 0) sp) (by rw [hcs]; exact wt_set hwf hn 0) rfl (by (try refine Pd.st ?_);(repeat (first|exact Pd.nil|exact Pd.fnil|refine Pd.inner ?_|refine Pd.skip (by decide +kernel) ?_|refine zf (zo 0 rfl rfl) ?_|refine zf (zo 1 rfl rfl) ?_|refine zf (zo 2 rfl rfl) ?_|refine zf (zo 3 rfl rfl) ?_|refine zf (zm 0 rfl rfl) ?_|refine zf (zm 1 rfl rfl) ?_|refine zf (zm 2 rfl rfl) ?_|refine zf (zm 3 rfl rfl) ?_|refine zc (zo 0 rfl rfl) ?_|refine zc (zo 1 rfl rfl) ?_|refine zc (zo 2 rfl rfl) ?_|refine zc (zo 3 rfl rfl) ?_|refine zc (zm 0 rfl rfl) ?_|refine zc (zm 1 rfl rfl) ?_|refine zc (zm 2 rfl rfl) ?_|refine zc (zm 3 rfl rfl) ?_))) (VA.go (VA.nil ?_)))
    refine VC.seq (VC.region ?_)
    refine VO.go (VO.ldA 3 (fmc ((popV B.sch).1, m)) rfl rfl rfl rfl (VO.go (VO.stA (vs := fmc ((popV B.sch).1, m)) (cs' := fmc ((popV B.sch).1, m)) 3 rfl rfl rfl rfl (Nat.le_refl _) rfl rfl rfl (VO.go (VO.nil ?_)))))
    refine VC.ret (Ret.cell3 4 5 6 rfl rfl rfl (RdL.many 3 rfl rfl) rfl rfl (L' := [r.h 46, admH p ((B.withSch (popV B.sch).2.2).setWt n 0)]) ?_ (hR m))
    exact (Imp.pick 2 rfl (adm_shut sp (hwf.setWt n 0) (Imp.app (L := [_, _]) (M := [_, _]) Imp.refl Imp.nil))).ent
  · rw [if_neg (by rw [h1]; simp)] at hR
    refine VC.seq (VC.region ?_)
    refine VO.go (VO.ldA 3 (fmc ((popV B.sch).1, m)) rfl rfl rfl rfl (VO.go (VO.stA (vs := fmc ((popV B.sch).1, m)) (cs' := fmc ((popV B.sch).1, m)) 3 rfl rfl rfl rfl (Nat.le_refl _) rfl rfl rfl (VO.go (VO.nil ?_)))))
    refine VC.ret (Ret.cell3 4 5 6 rfl rfl rfl (RdL.many 3 rfl rfl) rfl rfl (L' := [r.h 46, admH p (B.withSch (popV B.sch).2.2)]) ?_ (hR m))
    rw [hcs]
    exact (Imp.pick 2 rfl (adm_shut sp hwf (Imp.app (L := [_, _]) (M := [_, _]) Imp.refl Imp.nil))).ent

theorem flush_spec (Fr : Nat → Prop) (w : World) (p : Nat) (A : AdmM) (hC : A.Calls) : Tri Tryz.prog 140 [.pointer (some ⟨p, 0, none⟩)] Fr w [admH p A] (goneL p (A.expireM 9223372036854775807) (A.sch.goneM 9223372036854775807)) := by
  refine Tri.of 7 Tryz.func140 rfl (by kernel_rfl) tabOk rfl rfl ?_
  (repeat (first|refine zS ?_|refine zR ?_|refine zB ?_|refine zL ?_|refine zC ?_|refine zG (zN ?_)|refine zG (zD 0 rfl rfl rfl rfl ?_)))
  refine VO.go (VO.callV' (u := .bool false) (fun Fr w hF _ hs => by
    obtain ⟨sp, h⟩ := AdmIn.of (hs.at_ 0 rfl)
    exact none_spec Fr w h.at0) rfl (VO.go (VO.nil (VC.condF rfl (VC.skip ?_)))))
  (repeat (first|refine zS ?_|refine zR ?_|refine zB ?_|refine zL ?_|refine zC ?_|refine zG (zN ?_)|refine zG (zD 0 rfl rfl rfl rfl ?_)))
  refine VO.go (VO.call (Lc := [admH p A]) (fun Fr w _ _ _ => expire_spec Fr w p A _ hC) rfl rfl ?_)
  rintro _ _ ⟨r, hok, hgs, rfl, rfl⟩
  refine VO.go (VO.nil ?_)
  exact VC.ret (Ret.tmp 2 rfl rfl Ent.refl ⟨r, hok, hgs, rfl, rfl⟩)
end Go.Proofs.YtbbnmgakmcppdaaGreat.Adm
