/- The scheduler: the next one is found, whatever waits. No condition. -/
import Derived.Test.YtbbnmgakmcppdaaGreatSchedE
import Derived.Test.YtbbnmgakmcppdaaGreatSchedN
namespace Go.Proofs.YtbbnmgakmcppdaaGreat.Sched
open Go Go.Proofs.YtbbnmgakmcppdaaGreat.Vg Go.Proofs.YtbbnmgakmcppdaaGreat.T Go.Proofs.YtbbnmgakmcppdaaGreat.Api Go.Proofs.YtbbnmgakmcppdaaGreat.Ring
set_option linter.unusedSimpArgs false
set_option linter.unusedVariables false
attribute [local irreducible] VO VC VA

def SchM.qs (S : SchM) : List (List FrameM) := S.cls.map ClsM.q
theorem SchM.qs_at {S : SchM} {k : Nat} {c : ClsM} (h : S.cls[k]? = some c) : S.qs[k]? = some c.q := by simp [SchM.qs, h]

theorem list_set_same {α : Type} {l : List α} {k : Nat} {a : α} (h : l[k]? = some a) : l.set k a = l := by rw [← (List.getElem?_eq_some_iff.1 h).2]; simp
theorem qs_same {S : SchM} {k : Nat} {c : ClsM} (hc : S.cls[k]? = some c) {c' : ClsM} (h : c'.q = c.q) : (S.cls.set k c').map ClsM.q = S.qs := by
  rw [List.map_set, h]; exact list_set_same (by simp [hc])
theorem popF_succ {S : SchM} {c : ClsM} (hc : S.cls[S.turn]? = some c) (N : Nat) : S.popF (N + 1) = match c.q with
      | [] => SchM.popF N ⟨S.cls.set S.turn c.c0, S.cap, (S.turn + 1) % S.cls.length, true⟩
      | f :: q => if (c.c1 S.fresh).credit < opCost f.op then SchM.popF N ⟨S.cls.set S.turn (c.c1 S.fresh), S.cap, (S.turn + 1) % S.cls.length, true⟩
        else some (f, if q = [] then ⟨S.cls.set S.turn (c.c2 S.fresh f q), S.cap, (S.turn + 1) % S.cls.length, true⟩ else ⟨S.cls.set S.turn (c.c2 S.fresh f q), S.cap, S.turn, false⟩) := by
  simp only [SchM.popF, hc]
  cases c.q <;> rfl

/-- What a step of Pop does to the queues. -/
theorem popF_qs : ∀ {N : Nat} {S S1 : SchM} {f : FrameM}, S.Wf → S.popF N = some (f, S1) → ∃ k q, S.qs[k]? = some (f :: q) ∧ S1.qs = S.qs.set k q ∧ S1.cap = S.cap ∧ S1.Wf
  | 0, S, S1, f, _, h => by simp [SchM.popF] at h
  | N + 1, S, S1, f, hw, h => by
    obtain ⟨c, hc⟩ : ∃ c, S.cls[S.turn]? = some c := ⟨_, List.getElem?_eq_getElem hw.turn⟩
    have hcw := hw.cls c (List.mem_of_getElem? hc)
    have hql := hw.qs c (List.mem_of_getElem? hc)
    have same : ∀ c' : ClsM, c'.q = c.q → (S.cls.set S.turn c').map ClsM.q = S.qs := fun c' h' => qs_same hc h'
    rw [popF_succ hc] at h
    cases hq : c.q with
    | nil =>
      simp only [hq] at h
      have hw' := hw.turned (c' := c.c0) hcw.empty hql (by show (0 : Int) ≤ 95; omega)
      obtain ⟨k, q, h1, h2, h3, h4⟩ := popF_qs hw' h
      have e : SchM.qs ⟨S.cls.set S.turn c.c0, S.cap, (S.turn + 1) % S.cls.length, true⟩ = S.qs := same c.c0 rfl
      rw [e] at h1 h2
      exact ⟨k, q, h1, h2, h3, h4⟩
    | cons g q' =>
      simp only [hq] at h
      have hcost := opCost_le g.op
      have hw1 := hw.c1 hc
      by_cases hlt : (c.c1 S.fresh).credit < opCost g.op
      · rw [if_pos hlt] at h
        have hw' := hw.turned (c' := c.c1 S.fresh) hw1 hql (by omega)
        obtain ⟨k, q, h1, h2, h3, h4⟩ := popF_qs hw' h
        have e : SchM.qs ⟨S.cls.set S.turn (c.c1 S.fresh), S.cap, (S.turn + 1) % S.cls.length, true⟩ = S.qs := same (c.c1 S.fresh) rfl
        rw [e] at h1 h2
        exact ⟨k, q, h1, h2, h3, h4⟩
      · rw [if_neg hlt] at h
        obtain ⟨hw2, hq2⟩ := hw.c2 hc hq hlt
        simp only [Option.some.injEq, Prod.mk.injEq] at h
        obtain ⟨rfl, h⟩ := h
        refine ⟨S.turn, q', by rw [SchM.qs_at hc, hq], ?_⟩
        by_cases hz : q' = []
        · rw [if_pos hz] at h
          subst h
          have hcr : (c.c2 S.fresh g q').credit = 0 := by show (if q' = [] then 0 else (c.c1 S.fresh).credit - opCost g.op) = 0; rw [if_pos hz]
          exact ⟨by simp only [SchM.qs, List.map_set]; rfl, rfl, hw.turned hw2 hq2 (by rw [hcr]; omega)⟩
        · rw [if_neg hz] at h
          subst h
          exact ⟨by simp only [SchM.qs, List.map_set]; rfl, rfl, hw.stays hw2 hq2⟩

theorem popF_more : ∀ {N : Nat} {S : SchM} {r : FrameM × SchM} (M : Nat), S.popF N = some r → S.popF (N + M) = some r
  | 0, S, r, M, h => by simp [SchM.popF] at h
  | N + 1, S, r, M, h => by
    rw [show N + 1 + M = (N + M) + 1 from by omega]
    simp only [SchM.popF] at h ⊢
    cases hc : S.cls[S.turn]? with
    | none => simp [hc] at h
    | some c =>
      simp only [hc] at h ⊢
      cases hq : c.q with
      | nil => simp only [hq] at h ⊢; exact popF_more M h
      | cons g q' =>
        simp only [hq] at h ⊢
        by_cases hlt : (c.c1 S.fresh).credit < opCost g.op
        · rw [if_pos hlt] at h ⊢; exact popF_more M h
        · rw [if_neg hlt] at h ⊢; exact h

/-- With a fresh turn, the next class that has any is served. -/
theorem popF_fresh : ∀ (d : Nat) {S : SchM}, S.Wf → S.fresh = true → (∃ x, S.qs[(S.turn + d) % S.cls.length]? = some x ∧ x ≠ []) → ∃ r, S.popF (d + 1) = some r
  | d, S, hw, hf, ⟨x, hx, hne⟩ => by
    obtain ⟨c, hc⟩ : ∃ c, S.cls[S.turn]? = some c := ⟨_, List.getElem?_eq_getElem hw.turn⟩
    have hcw := hw.cls c (List.mem_of_getElem? hc)
    have hql := hw.qs c (List.mem_of_getElem? hc)
    rw [popF_succ hc]
    cases hq : c.q with
    | cons g q' =>
      have hcost := opCost_le g.op
      have h1 := hcw.q0; have h2 := hcw.c0
      have hlt : ¬ (c.c1 S.fresh).credit < opCost g.op := by
        show ¬ (if S.fresh then c.credit + c.quantum else c.credit) < _
        rw [hf, if_pos rfl]; omega
      simp only [if_neg hlt]
      exact ⟨_, rfl⟩
    | nil =>
      cases d with
      | zero =>
        rw [Nat.add_zero, Nat.mod_eq_of_lt hw.turn, SchM.qs_at hc] at hx
        rw [← Option.some.inj hx] at hne
        exact absurd hq hne
      | succ d =>
        have hw' := hw.turned (c' := c.c0) hcw.empty hql (by show (0 : Int) ≤ 95; omega)
        refine popF_fresh d hw' rfl ⟨x, ?_, hne⟩
        have e : SchM.qs ⟨S.cls.set S.turn c.c0, S.cap, (S.turn + 1) % S.cls.length, true⟩ = S.qs := qs_same hc rfl
        rw [e, ← hx]
        congr 1
        simp only [List.length_set]
        rw [Nat.mod_add_mod]
        congr 1; omega

theorem popF_some {S : SchM} (hw : S.Wf) (hi : S.idle = false) : ∃ f S1, S.popF 9 = some (f, S1) := by
  have hn4 := hw.n1
  -- some class has any, within so many turns
  have key : ∀ {T : SchM}, T.Wf → T.fresh = true → T.qs = S.qs → ∃ r, T.popF 4 = some r := by
    intro T hT hf hqs
    obtain ⟨c, hc, hne⟩ := List.all_eq_false.1 hi
    obtain ⟨j, hj⟩ := List.getElem?_of_mem hc
    have hTn : T.cls.length = S.cls.length := by have := congrArg List.length hqs; simpa [SchM.qs] using this
    have hjn := (List.getElem?_eq_some_iff.1 hj).1
    have ht := hT.turn
    have hx : T.qs[j]? = some c.q := by rw [hqs, SchM.qs_at hj]
    have hne' : c.q ≠ [] := fun e => hne (by rw [e]; rfl)
    let d := (j + T.cls.length - T.turn) % T.cls.length
    have hd : d < T.cls.length := Nat.mod_lt _ hT.n0
    have hdj : (T.turn + d) % T.cls.length = j := by
      show (T.turn + (j + T.cls.length - T.turn) % T.cls.length) % T.cls.length = j
      rw [Nat.add_mod_mod, show T.turn + (j + T.cls.length - T.turn) = j + T.cls.length from by omega, Nat.add_mod_right]
      exact Nat.mod_eq_of_lt (by omega)
    obtain ⟨r, hr⟩ := popF_fresh d hT hf ⟨c.q, by rw [hdj]; exact hx, hne'⟩
    refine ⟨r, ?_⟩
    have := popF_more (3 - d) hr
    rwa [show d + 1 + (3 - d) = 4 from by omega] at this
  have up : ∀ {T : SchM} {r : FrameM × SchM}, T.popF 4 = some r → T.popF 9 = some r := fun h => popF_more 5 h
  cases hf : S.fresh with
  | true =>
    obtain ⟨r, hr⟩ := key hw hf rfl
    exact ⟨r.1, r.2, up hr⟩
  | false =>
    obtain ⟨c, hc⟩ : ∃ c, S.cls[S.turn]? = some c := ⟨_, List.getElem?_eq_getElem hw.turn⟩
    have hcw := hw.cls c (List.mem_of_getElem? hc)
    have hql := hw.qs c (List.mem_of_getElem? hc)
    have same : ∀ c' : ClsM, c'.q = c.q → (S.cls.set S.turn c').map ClsM.q = S.qs := fun c' h' => qs_same hc h'
    rw [popF_succ (N := 8) hc]
    cases hq : c.q with
    | nil =>
      have hw' := hw.turned (c' := c.c0) hcw.empty hql (by show (0 : Int) ≤ 95; omega)
      obtain ⟨r, hr⟩ := key hw' rfl (same c.c0 rfl)
      exact ⟨r.1, r.2, popF_more 4 hr⟩
    | cons g q' =>
      have hcost := opCost_le g.op
      by_cases hlt : (c.c1 S.fresh).credit < opCost g.op
      · have hw' := hw.turned (c' := c.c1 S.fresh) (hw.c1 hc) hql (by omega)
        obtain ⟨r, hr⟩ := key hw' rfl (same (c.c1 S.fresh) rfl)
        simp only [if_pos hlt]
        exact ⟨r.1, r.2, popF_more 4 hr⟩
      · simp only [if_neg hlt]
        exact ⟨_, _, rfl⟩

def SchM.popM (S : SchM) : Option (FrameM × SchM) := if S.idle then none else S.popF 9
def popR (p : Nat) (S : SchM) (v : Value) (L : List HP) : Prop := match S.popM with
  | none => v = .tuple #[.agg (fmc fmz).toArray, .bool false] ∧ L = [schH p S]
  | some r => (∃ m, v = .tuple #[.agg (fmc (r.1, m)).toArray, .bool true]) ∧ L = [schH p r.2]

set_option maxRecDepth 100000 in
theorem pop_idle (Fr : Nat → Prop) (w : World) (p : Nat) (S : SchM) (hi : S.idle = true) :
    Tri Tryz.prog 210 [.pointer (some ⟨p, 0, none⟩)] Fr w [schH p S] (fun v L => v = .tuple #[.agg (fmc fmz).toArray, .bool false] ∧ L = [schH p S]) := by
  refine Tri.of 107 Tryz.func210 rfl (by kernel_rfl) tabOk rfl rfl ?_
  refine VC.seq (VC.region (VO.go (VO.alloc rfl fun b => VO.go (VO.nil ?_))))
  refine VC.opn 1 rfl (HOpn.sch p S) fun s0 h0 => ?_
  refine VC.ent (L' := pt b (fmc fmz) 46 :: schL p S s0) (Imp.perm List.perm_append_comm).ent ?_
  (repeat (first|refine zS ?_|refine zR ?_|refine zB ?_|refine zL ?_|refine zC ?_|refine zG (zN ?_)|refine zG (zD 0 rfl rfl rfl rfl ?_)))
  refine VO.go (VO.callV' (fun Fr w hF _ hs => none_spec Fr w (hs.blk 1 rfl)) rfl ?_)
  refine VO.go (VO.yes 10 false rfl (decide_eq_false (by have := h0.wf.n0; have := h0.len; omega)) ?_)
  (repeat (first|refine zS ?_|refine zR ?_|refine zB ?_|refine zL ?_|refine zC ?_|refine zG (zN ?_)|refine zG (zD 0 rfl rfl rfl rfl ?_)))
  refine VO.go (VO.callV' (fun Fr w hF _ hs => idle_spec Fr w (SatIn.shut s0 h0 hs.tail)) rfl (VO.go (VO.nil ?_)))
  refine VC.cond rfl (fun _ => ?_) (fun h => by rw [hi] at h; cases h)
  refine VC.seq (VC.region (VO.go (VO.light (light_build (pv := []) (fmc fmz) rfl rfl rfl rfl rfl) (VO.go (VO.stA (vs := fmc fmz) (cs' := fmc fmz) 0 rfl rfl rfl rfl (Nat.le_refl _) rfl rfl rfl (VO.go (VO.nil ?_)))))))
  exact VC.ret (Ret.cellTmp 2 3 rfl rfl rfl (RdL.many 0 rfl rfl) rfl (Imp.trans Imp.tl (sch_shut h0)).ent ⟨rfl, rfl⟩)

theorem pop_any (Fr : Nat → Prop) (w : World) (p : Nat) (S : SchM) (hw : S.Wf) : Tri Tryz.prog 210 [.pointer (some ⟨p, 0, none⟩)] Fr w [schH p S] (popR p S) := by
  cases hi : S.idle with
  | true =>
    have := pop_idle Fr w p S hi
    unfold popR SchM.popM
    simpa only [hi, if_true] using this
  | false =>
    obtain ⟨f, S1, h⟩ := popF_some hw hi
    have := pop_spec Fr w p S 9 f S1 h hi
    unfold popR SchM.popM
    simpa only [hi, h, if_neg (by simp : ¬ false = true)] using this

theorem popM_some {S S1 : SchM} {f : FrameM} (hw : S.Wf) (h : S.popM = some (f, S1)) : ∃ k q, S.qs[k]? = some (f :: q) ∧ S1.qs = S.qs.set k q ∧ S1.cap = S.cap ∧ S1.Wf := by
  unfold SchM.popM at h
  split at h
  · cases h
  · exact popF_qs hw h
theorem popM_none {S : SchM} (hw : S.Wf) (h : S.popM = none) : S.idle = true := by
  unfold SchM.popM at h
  split at h
  · assumption
  · rename_i hi
    obtain ⟨f, S1, h2⟩ := popF_some hw (by simpa using hi)
    rw [h2] at h; cases h

/-! ### Push, by the queues -/
theorem push_wf {S : SchM} (hw : S.Wf) (f : FrameM) : (S.pushM f).2.Wf := by
  unfold SchM.pushM
  cases ha : S.at_ f.cls with
  | none => exact hw
  | some c =>
    dsimp only
    split
    · exact hw
    · split
      · rename_i hlt
        unfold SchM.at_ at ha
        split at ha
        · have hcw := hw.cls c (List.mem_of_getElem? ha)
          exact hw.set ha ⟨hcw.q0, hcw.q1, hcw.c0, hcw.c1, hcw.s0, hcw.s1⟩ (by simp; omega) (hw.low _ c ha)
        · cases ha
      · exact hw
theorem push_at {S : SchM} {f : FrameM} {k : Nat} {c : ClsM} (hk : f.cls = k) (hc : S.cls[k]? = some c) (ho : opCheck f.op = 0) :
    S.pushM f = if c.q.length < S.cap then (0, S.setC k { c with q := c.q ++ [f] }) else (60, S) := by
  unfold SchM.pushM
  rw [hk, SchM.at_nat, hc]
  dsimp only
  rw [if_neg (fun h => h ho), Int.toNat_natCast]
theorem push_qs {S : SchM} {f : FrameM} {k : Nat} {q : List FrameM} (hk : f.cls = k) (hc : S.qs[k]? = some q) (ho : opCheck f.op = 0) :
    (S.pushM f).1 = (if q.length < S.cap then 0 else 60) ∧ (S.pushM f).2.qs = (if q.length < S.cap then S.qs.set k (q ++ [f]) else S.qs) ∧ (S.pushM f).2.cap = S.cap := by
  unfold SchM.qs at hc
  rw [List.getElem?_map] at hc
  cases hcl : S.cls[k]? with
  | none => rw [hcl] at hc; cases hc
  | some c =>
    rw [hcl] at hc
    obtain rfl : c.q = q := Option.some.inj hc
    rw [push_at hk hcl ho]
    split
    · exact ⟨rfl, by simp [SchM.qs, SchM.setC, List.map_set], rfl⟩
    · exact ⟨rfl, rfl, rfl⟩
theorem exp_qs (S : SchM) (now : Int) : (S.expM now).qs = S.qs.map fun q => q.filter (stay now) := by simp [SchM.qs, SchM.expM, ClsM.expC, Function.comp_def]
theorem gone_qs (S : SchM) (now : Int) : S.goneM now = S.qs.flatMap fun q => q.filter (gone now) := by simp [SchM.qs, SchM.goneM, List.flatMap_map]
theorem exp_wf {S : SchM} (hw : S.Wf) (now : Int) : (S.expM now).Wf := by
  refine ⟨by simpa [SchM.expM] using hw.n0, by simpa [SchM.expM] using hw.n1, hw.cap0, hw.cap1, by simpa [SchM.expM] using hw.turn, fun x hx => ?_, fun x hx => ?_, fun k x hx hl => ?_⟩
  · obtain ⟨c, hc, rfl⟩ := List.mem_map.1 hx
    exact (hw.cls c hc).exp now
  · obtain ⟨c, hc, rfl⟩ := List.mem_map.1 hx
    have := hw.qs c hc
    have := List.length_filter_le (stay now) c.q
    show (c.q.filter (stay now)).length ≤ S.cap
    omega
  · simp only [SchM.expM, List.getElem?_map] at hx
    cases hc : S.cls[k]? with
    | none => rw [hc] at hx; cases hx
    | some c =>
      rw [hc] at hx
      obtain rfl : c.expC now = x := Option.some.inj hx
      have := hw.low k c hc hl
      show (if c.q.filter (stay now) = [] then 0 else c.credit) ≤ 95
      split <;> omega
theorem len_qs (S : SchM) (k : Nat) : S.lenM k = match S.qs[k]? with | some q => (q.length : Int) | none => 0 := by
  unfold SchM.lenM SchM.qs
  rw [SchM.at_nat, List.getElem?_map]
  cases S.cls[k]? <;> rfl
theorem wait_qs (S : SchM) : S.waitM = S.qs.flatten := by simp [SchM.waitM, SchM.qs, List.flatMap]
theorem idle_qs (S : SchM) : S.idle = S.qs.all List.isEmpty := by simp [SchM.idle, SchM.qs, List.all_map, Function.comp_def]
end Go.Proofs.YtbbnmgakmcppdaaGreat.Sched
