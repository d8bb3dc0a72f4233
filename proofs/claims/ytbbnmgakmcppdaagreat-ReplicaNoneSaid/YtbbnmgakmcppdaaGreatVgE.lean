/- The engine, part E: regions that draw their order. One order is gone through, by a plan; what is read early stays readable till it has been read. No program is named; nothing is assumed. -/
import Derived.Test.YtbbnmgakmcppdaaGreatVgD
namespace Go.Proofs.YtbbnmgakmcppdaaGreat.Vg
open Go

/-- Does operation j come, by an edge of its own, behind operation i? -/
def waits (ops : Array Oper) (j i : Nat) : Bool :=
  match ops[j]? with
  | some o => o.after.any fun e => Region.binds .any e && e.on == i
  | none => false

section
variable {P : Program} {ops : Array Oper} {Q : Exit → Act → World → Prop}

abbrev Pend := List (Nat × (World → Prop))

def wpAnyP (P : Program) (ops : Array Oper) (Q : Exit → Act → World → Prop) : Nat → Array Bool → Pend → Act → World → Prop
  | 0, listed, _, a, w => Region.ready .any ops listed = [] ∧ Q .normal a w
  | fuel + 1, listed, S, a, w =>
    (Region.ready .any ops listed = [] → Q .normal a w) ∧
    ∀ j ∈ Region.ready .any ops listed, wpOp P ops Q j (fun a' w' => (∀ p ∈ S, waits ops j p.1 = false → p.2 w') ∧
      wpAnyP P ops Q fuel (listed.setIfInBounds j true) (S.filter fun p => !waits ops j p.1) a' w') a w

theorem wpAnyP_mono : ∀ (fuel : Nat) (listed : Array Bool) (S S' : Pend) (a : Act) (w : World), (∀ p ∈ S', p ∈ S) → wpAnyP P ops Q fuel listed S a w → wpAnyP P ops Q fuel listed S' a w
  | 0, _, _, _, _, _, _, h => h
  | fuel + 1, _, S, S', _, _, hs, h => ⟨h.1, fun j hj => wpOp_mono (fun a' w' h' => ⟨fun p hp => h'.1 p (hs p hp), wpAnyP_mono fuel _ _ _ a' w' (fun p hp => by
      rw [List.mem_filter] at hp ⊢; exact ⟨hs p hp.1, hp.2⟩) h'.2⟩) (h.2 j hj)⟩

theorem wpAny_of_P : ∀ (fuel : Nat) (listed : Array Bool) (S : Pend) (a : Act) (w : World), wpAnyP P ops Q fuel listed S a w → wpAny P .any ops Q fuel listed a w
  | 0, _, _, _, _, h => h
  | fuel + 1, _, _, _, _, h => ⟨h.1, fun j hj => wpOp_mono (fun a' w' h' => wpAny_of_P fuel _ _ a' w' h'.2) (h.2 j hj)⟩

theorem wpAnyP_first {i : Nat} {oi : Oper} {v : Value} {Si : World → Prop} (hi : ops[i]? = some oi) (hsel : ∀ (j : Nat) (o : Oper) cs b, ops[j]? = some o → o.op ≠ .select cs b)
    (hQ : ∀ c a w, Q (.panic c) (a.put oi.dst v) w → Q (.panic c) a w) :
    ∀ (fuel : Nat) (listed : Array Bool) (S : Pend) (a : Act) (w : World),
      (∀ j oj, ops[j]? = some oj → j ≠ i → listed.getD j true = false → (∀ e ∈ oj.after, Region.binds .any e = true → e.on ≠ i) → oi.apart ops oj = true) →
      i ∈ Region.ready .any ops listed → YieldsIf P ops Si oi v a → Si w → (∀ p ∈ S, p.2 w) →
      wpAnyP P ops Q fuel (listed.setIfInBounds i true) ((i, Si) :: S) (a.put oi.dst v) w → wpAnyP P ops Q (fuel + 1) listed S a w := by
  intro fuel
  induction fuel with
  | zero =>
    intro listed S a w _ hr hy hS hall H
    refine ⟨fun h => (by rw [h] at hr; cases hr), fun j hj => ?_⟩
    by_cases hji : j = i
    · subst hji; exact hy.wpOp hi hS ⟨fun p hp _ => hall p hp, H⟩
    · have := ready_mono hj hji
      rw [H.1] at this
      cases this
  | succ fuel ih =>
    intro listed S a w hfree hr hy hS hall H
    refine ⟨fun h => (by rw [h] at hr; cases hr), fun j hj => ?_⟩
    by_cases hji : j = i
    · subst hji
      exact hy.wpOp hi hS ⟨fun p hp _ => hall p hp, wpAnyP_mono _ _ _ _ _ _ (fun p hp => List.mem_cons_of_mem _ (List.mem_filter.1 hp).1) H⟩
    · have h1 := H.2 j (ready_mono hj hji)
      obtain ⟨hjun, oj, hoj, hall'⟩ := mem_ready.1 hj
      have hnot : ∀ e ∈ oj.after, Region.binds .any e = true → e.on ≠ i := fun e he hb heq => by
        have h1 := hall' e he hb
        have h0 := (mem_ready.1 hr).1
        rw [heq] at h1
        rcases Nat.lt_or_ge i listed.size with h' | h'
        · simp [h'] at h0 h1; rw [h0] at h1; cases h1
        · simp [Array.getElem?_eq_none h'] at h1
      have hwt : waits ops j i = false := by
        unfold waits; rw [hoj]
        cases hany : oj.after.any fun e => Region.binds .any e && e.on == i
        · exact hany
        · obtain ⟨e, he, hb⟩ := Array.any_eq_true'.1 hany
          simp only [Bool.and_eq_true, beq_iff_eq] at hb
          exact (hnot e he hb.1 hb.2).elim
      have h2 := wpOp_putIf hoj (hfree j oj hoj hji hjun hnot) (fun cs b => hsel i oi cs b hi) (fun cs b => hsel j oj cs b hoj) hQ hy h1
      have hfree' : ∀ k ok, ops[k]? = some ok → k ≠ i → (listed.setIfInBounds j true).getD k true = false →
          (∀ e ∈ ok.after, Region.binds .any e = true → e.on ≠ i) → oi.apart ops ok = true := fun k ok hk hki hun hno => by
        refine hfree k ok hk hki ?_ hno
        by_cases hjk : j = k
        · subst hjk; exact hjun
        · rw [getD_set_ne true hjk] at hun; exact hun
      refine wpOp_mono (fun a' w' h3 => ?_) h2
      obtain ⟨hy', hst, H'⟩ := h3
      refine ⟨fun p hp hq => hst p (List.mem_cons_of_mem _ hp) hq, ?_⟩
      refine ih (listed.setIfInBounds j true) _ a' w' hfree' (ready_mono hr (Ne.symm hji)) hy' (hst (i, Si) (List.mem_cons_self ..) hwt) (fun p hp => ?_) ?_
      · have := List.mem_filter.1 hp
        exact hst p (List.mem_cons_of_mem _ this.1) (by simpa using this.2)
      · rw [Array.setIfInBounds_comm _ _ hji]
        rw [List.filter_cons_of_pos (by simp [hwt])] at H'
        exact H'

/-- A pending that always holds asks nothing. -/
theorem wpAnyP_more : ∀ (fuel : Nat) (listed : Array Bool) (S S' : Pend) (a : Act) (w : World), (∀ p ∈ S', p ∈ S ∨ ∀ w, p.2 w) → wpAnyP P ops Q fuel listed S a w → wpAnyP P ops Q fuel listed S' a w
  | 0, _, _, _, _, _, _, h => h
  | fuel + 1, _, S, S', _, _, hs, h => ⟨h.1, fun j hj => wpOp_mono (fun a' w' h' => ⟨fun p hp hq => (hs p hp).elim (fun h => h'.1 p h hq) (fun h => h w'), wpAnyP_more fuel _ _ _ a' w' (fun p hp => by
      rw [List.mem_filter] at hp
      rcases hs p hp.1 with h1 | h1
      · exact .inl (List.mem_filter.2 ⟨h1, hp.2⟩)
      · exact .inr h1) h'.2⟩) (h.2 j hj)⟩

/-- A plan: which operation comes next: one that may be taken ahead of all others that are ready; the only one that is ready; or both of two that are. -/
inductive Plan where
  | nil
  | take (i : Nat) (p : Plan)
  | only (i : Nat) (p : Plan)
  | two (i j : Nat) (p q : Plan)
  | three (i j m : Nat) (p q r : Plan)
def Plan.len : Plan → Nat
  | .nil => 0
  | .take _ p => p.len + 1
  | .only _ p => p.len + 1
  | .two _ _ p _ => p.len + 1
  | .three _ _ _ p _ _ => p.len + 1
/-- numbers i and so on, n of them, are taken -/
def ts (i : Nat) : Nat → Plan → Plan
  | 0, p => p
  | n + 1, p => .take i (ts (i + 1) n p)

def planB (ops : Array Oper) : Array Bool → Plan → Bool
  | listed, .nil => (Region.ready .any ops listed).isEmpty
  | listed, .take i r => (Region.ready .any ops listed).contains i && Region.free .any ops listed i && planB ops (listed.setIfInBounds i true) r
  | listed, .only i r => (Region.ready .any ops listed == [i]) && planB ops (listed.setIfInBounds i true) r
  | listed, .two i j p q => (Region.ready .any ops listed == [i, j]) && planB ops (listed.setIfInBounds i true) p && planB ops (listed.setIfInBounds j true) q && Nat.beq p.len q.len
  | listed, .three i j m p q r => (Region.ready .any ops listed == [i, j, m]) && planB ops (listed.setIfInBounds i true) p && planB ops (listed.setIfInBounds j true) q && planB ops (listed.setIfInBounds m true) r && Nat.beq p.len q.len && Nat.beq p.len r.len
end

/-- From a region's plan on: the ways that are left. 'S': what has been read ahead and may come to be read later. -/
def VA (X : Cx) (ops : Array Oper) (G : GS) (pl : Plan) (S : Pend) (e : Env) (L : List HP) (K : Env → List HP → Prop) : Prop :=
  ∀ (Q' : Exit → Act → World → Prop), (∀ c a w, ¬ Q' (.panic c) a w) → (∀ e' L' a' w', Agr X.n a' e' → St X L' w' → K e' L' → Q' .normal a' w') → Region.noSelect ops = true →
    ∀ listed a w, planB ops listed pl = true → Agr X.n a e → GOk G a → St X L w → (∀ p ∈ S, p.2 w) → wpAnyP X.P ops Q' pl.len listed S a w

section
variable {X : Cx} {ops : Array Oper} {G : GS} {pl : Plan} {S : Pend} {e : Env} {L : List HP} {K : Env → List HP → Prop}

theorem VA.nil (h : K e L) : VA X ops G .nil S e L K := by
  intro Q' _ hQ _ listed a w hp ha _ hw _
  simp only [planB, List.isEmpty_iff] at hp
  exact ⟨hp, hQ _ _ _ _ ha hw h⟩

theorem VA.first {i : Nat} {o : Oper} {v : Value} {Si : World → Prop} (hi : ops.toList[i]? = some o) (hd : dstOk X.n o.dst = true) (hf : gFree G o.dst = true)
    (hy : ∀ a, Agr X.n a e → GOk G a → YieldsIf X.P ops Si o v a) (hS : ∀ w, St X L w → Si w) (hk : VA X ops G pl ((i, Si) :: S) (putE o.dst v e) L K) : VA X ops G (.take i pl) S e L K := by
  intro Q' hp0 hQ hsel listed a w hp ha hG hw hall
  simp only [planB, Bool.and_eq_true] at hp
  have hi' : ops[i]? = some o := by simpa using hi
  exact wpAnyP_first hi' (Region.noSelect_spec hsel) (fun c a w h => (hp0 c _ w h).elim) pl.len listed S a w (Region.free_spec hi' hp.1.2) (by simpa using hp.1.1) (hy a ha hG) (hS w hw) hall
    (hk Q' hp0 hQ hsel _ _ w hp.2 (ha.putE hd v) (hG.put hf v) hw (fun p h => by
      rcases List.mem_cons.1 h with rfl | h
      · exact hS w hw
      · exact hall p h))

/-- What only computes is taken first, and nothing of it need be kept in mind. -/
theorem VA.pure {i : Nat} {o : Oper} {v : Value} (hi : ops.toList[i]? = some o) (hg : gOn ops G o.guard = some true) (hd : dstOk X.n o.dst = true) (hf : gFree G o.dst = true)
    (hl : Light X o.op e v) (hk : VA X ops G pl S (putE o.dst v e) L K) : VA X ops G (.take i pl) S e L K := by
  refine VA.first (Si := fun _ => True) hi hd hf (fun a ha hG => .inl ⟨gOn_wanted hG hg, fun w _ => hl a ha _ _ _ _ _ w⟩) (fun _ _ => trivial) ?_
  intro Q' hp0 hQ hsel listed a w hp ha hG hw hall
  have := hk Q' hp0 hQ hsel listed a w hp ha hG hw (fun p h => hall p (List.mem_cons_of_mem _ h))
  exact wpAnyP_more pl.len listed S _ a w (fun p hp => by
    rcases List.mem_cons.1 hp with rfl | hp
    · exact .inr fun _ => trivial
    · exact .inl hp) this
theorem VA.off {i : Nat} {o : Oper} (hi : ops.toList[i]? = some o) (hg : gOn ops G o.guard = some false) (hd : dstOk X.n o.dst = true) (hf : gFree G o.dst = true)
    (hk : VA X ops G pl S (putE o.dst undef e) L K) : VA X ops G (.take i pl) S e L K := by
  refine VA.first (Si := fun _ => True) hi hd hf (fun a ha hG => .inr ⟨gOn_wanted hG hg, rfl⟩) (fun _ _ => trivial) ?_
  intro Q' hp0 hQ hsel listed a w hp ha hG hw hall
  have := hk Q' hp0 hQ hsel listed a w hp ha hG hw (fun p h => hall p (List.mem_cons_of_mem _ h))
  exact wpAnyP_more pl.len listed S _ a w (fun p hp => by
    rcases List.mem_cons.1 hp with rfl | hp
    · exact .inr fun _ => trivial
    · exact .inl hp) this

/-- A read is taken first; it must stay readable while it may come later. -/
theorem VA.load {i : Nat} {dst : Option Tmp} {ty : TypeId} {pos : String} {after : Array Edge} {guard : Option (Nat × Bool)} {T : TypeId} {x : Operand} {ti : TI} {b off : Nat} {v : Value}
    (hi : ops.toList[i]? = some ⟨dst, .load T x, ty, pos, after, guard⟩) (hx : ev e x = some (.pointer (some ⟨b, off, none⟩))) (hT : tyLook X.tab T = some ti) (hr : RdL X L ti b off v)
    (hk : VA X ops G pl ((i, Rd ti.und.agg ti.size b off v) :: S) (putE dst v e) L K)
    (hg : gOn ops G guard = some true := by rfl) (hd : dstOk X.n dst = true := by rfl) (hf : gFree G dst = true := by rfl) : VA X ops G (.take i pl) S e L K :=
  VA.first (Si := Rd ti.und.agg ti.size b off v) hi hd hf (fun _ ha hG => .inl ⟨gOn_wanted hG hg, fun _ hw => run_load hx hT ha hw _ _ _ _ _⟩) hr hk

theorem VA.ld {j : Nat} {dst : Option Tmp} {ty : TypeId} {pos : String} {after : Array Edge} {guard : Option (Nat × Bool)} {T : TypeId} {x : Operand} {ti : TI} {b off t : Nat} {cs : List Value} {v : Value} (i : Nat)
    (hi : ops.toList[j]? = some ⟨dst, .load T x, ty, pos, after, guard⟩) (hx : ev e x = some (.pointer (some ⟨b, off, none⟩))) (hL : L[i]? = some (pt b cs t)) (hT : tyLook X.tab T = some ti) (hv : cs[off]? = some v)
    (hk : VA X ops G pl ((j, Rd ti.und.agg ti.size b off v) :: S) (putE dst v e) L K) (ha : ti.und.agg = false := by rfl)
    (hg : gOn ops G guard = some true := by rfl) (hd : dstOk X.n dst = true := by rfl) (hf : gFree G dst = true := by rfl) : VA X ops G (.take j pl) S e L K :=
  VA.load hi hx hT (RdL.one i hL hv ha) hk hg hd hf
theorem VA.ldA {j : Nat} {dst : Option Tmp} {ty : TypeId} {pos : String} {after : Array Edge} {guard : Option (Nat × Bool)} {T : TypeId} {x : Operand} {ti : TI} {b off t : Nat} {cs : List Value} (i : Nat) (ds : List Value)
    (hi : ops.toList[j]? = some ⟨dst, .load T x, ty, pos, after, guard⟩) (hx : ev e x = some (.pointer (some ⟨b, off, none⟩))) (hL : L[i]? = some (pt b cs t)) (hT : tyLook X.tab T = some ti) (hv : (cs.drop off).take ti.size = ds)
    (hk : VA X ops G pl ((j, Rd ti.und.agg ti.size b off (.agg ds.toArray)) :: S) (putE dst (.agg ds.toArray) e) L K) (hl : ds.length = ti.size := by rfl) (ha : ti.und.agg = true := by rfl)
    (hg : gOn ops G guard = some true := by rfl) (hd : dstOk X.n dst = true := by rfl) (hf : gFree G dst = true := by rfl) : VA X ops G (.take j pl) S e L K :=
  VA.load hi hx hT (RdL.many i hL hv hl ha) hk hg hd hf

/-- Any other operation: it is the only one that is ready. What was read ahead and may still come must stay readable. -/
theorem VA.op {i : Nat} {o : Oper} {M : Value → List HP → Prop} (hi : ops.toList[i]? = some o)
    (hg : gOn ops G o.guard = some true) (hd : dstOk X.n o.dst = true) (hf : gFree G o.dst = true) (h : OpT X o.op e L M)
    (hst : ∀ v L', M v L' → ∀ w, St X L' w → ∀ p ∈ S, waits ops i p.1 = false → p.2 w)
    (hk : ∀ v L', M v L' → VA X ops G pl (S.filter fun p => !waits ops i p.1) (putE o.dst v e) L' K) : VA X ops G (.only i pl) S e L K := by
  intro Q' hp0 hQ hsel listed a w hp ha hG hw hall
  simp only [planB, Bool.and_eq_true, beq_iff_eq] at hp
  have hi' : ops[i]? = some o := by simpa using hi
  have hpr := hp.1
  refine ⟨fun h0 => (by rw [hpr] at h0; cases h0), fun j hj => ?_⟩
  rw [hpr, List.mem_singleton] at hj
  subst hj
  unfold wpOp
  rw [hi']
  simp only [gOn_wanted hG hg, if_true]
  refine .inl (h.wp ha hw fun v L' w' hm hs => ⟨fun p hp1 hp2 => hst v L' hm w' hs p hp1 hp2, ?_⟩)
  exact hk v L' hm Q' hp0 hQ hsel _ _ w' hp.2 (ha.putE hd v) (hG.put hf v) hs (fun p hp1 => hst v L' hm w' hs p (List.mem_filter.1 hp1).1 (by simpa using (List.mem_filter.1 hp1).2))

/-- Both of two come up. -/
theorem VA.two {i j : Nat} {oi oj : Oper} {p q : Plan} {M N : Value → List HP → Prop} (hi : ops.toList[i]? = some oi) (hj : ops.toList[j]? = some oj)
    (hgi : gOn ops G oi.guard = some true) (hdi : dstOk X.n oi.dst = true) (hfi : gFree G oi.dst = true) (hi2 : OpT X oi.op e L M)
    (hgj : gOn ops G oj.guard = some true) (hdj : dstOk X.n oj.dst = true) (hfj : gFree G oj.dst = true) (hj2 : OpT X oj.op e L N)
    (hsti : ∀ v L', M v L' → ∀ w, St X L' w → ∀ p ∈ S, waits ops i p.1 = false → p.2 w) (hstj : ∀ v L', N v L' → ∀ w, St X L' w → ∀ p ∈ S, waits ops j p.1 = false → p.2 w)
    (hki : ∀ v L', M v L' → VA X ops G p (S.filter fun p => !waits ops i p.1) (putE oi.dst v e) L' K)
    (hkj : ∀ v L', N v L' → VA X ops G q (S.filter fun p => !waits ops j p.1) (putE oj.dst v e) L' K) : VA X ops G (.two i j p q) S e L K := by
  intro Q' hp0 hQ hsel listed a w hp ha hG hw hall
  simp only [planB, Bool.and_eq_true, beq_iff_eq] at hp
  obtain ⟨⟨⟨hpr, hpi⟩, hpj⟩, hlen⟩ := hp
  have hlen := Nat.eq_of_beq_eq_true hlen
  have hi' : ops[i]? = some oi := by simpa using hi
  have hj' : ops[j]? = some oj := by simpa using hj
  refine ⟨fun h0 => (by rw [hpr] at h0; cases h0), fun k hk => ?_⟩
  rw [hpr] at hk
  rcases List.mem_cons.1 hk with rfl | hk
  · unfold wpOp
    rw [hi']
    simp only [gOn_wanted hG hgi, if_true]
    refine .inl (hi2.wp ha hw fun v L' w' hm hs => ⟨fun p hp1 hp2 => hsti v L' hm w' hs p hp1 hp2, ?_⟩)
    exact hki v L' hm Q' hp0 hQ hsel _ _ w' hpi (ha.putE hdi v) (hG.put hfi v) hs (fun p hp1 => hsti v L' hm w' hs p (List.mem_filter.1 hp1).1 (by simpa using (List.mem_filter.1 hp1).2))
  · rw [List.mem_singleton] at hk
    subst hk
    unfold wpOp
    rw [hj']
    simp only [gOn_wanted hG hgj, if_true]
    refine .inl (hj2.wp ha hw fun v L' w' hm hs => ⟨fun p hp1 hp2 => hstj v L' hm w' hs p hp1 hp2, ?_⟩)
    rw [hlen]
    exact hkj v L' hm Q' hp0 hQ hsel _ _ w' hpj (ha.putE hdj v) (hG.put hfj v) hs (fun p hp1 => hstj v L' hm w' hs p (List.mem_filter.1 hp1).1 (by simpa using (List.mem_filter.1 hp1).2))

/-- Each of three comes up. -/
theorem VA.three {i j m : Nat} {oi oj om : Oper} {p q r : Plan} {M N O : Value → List HP → Prop} (hi : ops.toList[i]? = some oi) (hj : ops.toList[j]? = some oj) (hm : ops.toList[m]? = some om)
    (hgi : gOn ops G oi.guard = some true) (hdi : dstOk X.n oi.dst = true) (hfi : gFree G oi.dst = true) (hi2 : OpT X oi.op e L M)
    (hgj : gOn ops G oj.guard = some true) (hdj : dstOk X.n oj.dst = true) (hfj : gFree G oj.dst = true) (hj2 : OpT X oj.op e L N)
    (hgm : gOn ops G om.guard = some true) (hdm : dstOk X.n om.dst = true) (hfm : gFree G om.dst = true) (hm2 : OpT X om.op e L O)
    (hsti : ∀ v L', M v L' → ∀ w, St X L' w → ∀ p ∈ S, waits ops i p.1 = false → p.2 w) (hstj : ∀ v L', N v L' → ∀ w, St X L' w → ∀ p ∈ S, waits ops j p.1 = false → p.2 w)
    (hstm : ∀ v L', O v L' → ∀ w, St X L' w → ∀ p ∈ S, waits ops m p.1 = false → p.2 w)
    (hki : ∀ v L', M v L' → VA X ops G p (S.filter fun p => !waits ops i p.1) (putE oi.dst v e) L' K)
    (hkj : ∀ v L', N v L' → VA X ops G q (S.filter fun p => !waits ops j p.1) (putE oj.dst v e) L' K)
    (hkm : ∀ v L', O v L' → VA X ops G r (S.filter fun p => !waits ops m p.1) (putE om.dst v e) L' K) : VA X ops G (.three i j m p q r) S e L K := by
  intro Q' hp0 hQ hsel listed a w hp ha hG hw hall
  simp only [planB, Bool.and_eq_true, beq_iff_eq] at hp
  obtain ⟨⟨⟨⟨⟨hpr, hpi⟩, hpj⟩, hpm⟩, hlen⟩, hlen2⟩ := hp
  have hlen := Nat.eq_of_beq_eq_true hlen
  have hlen2 := Nat.eq_of_beq_eq_true hlen2
  have hi' : ops[i]? = some oi := by simpa using hi
  have hj' : ops[j]? = some oj := by simpa using hj
  have hm' : ops[m]? = some om := by simpa using hm
  refine ⟨fun h0 => (by rw [hpr] at h0; cases h0), fun k hk => ?_⟩
  rw [hpr] at hk
  rcases List.mem_cons.1 hk with rfl | hk
  · unfold wpOp
    rw [hi']
    simp only [gOn_wanted hG hgi, if_true]
    refine .inl (hi2.wp ha hw fun v L' w' hm hs => ⟨fun p hp1 hp2 => hsti v L' hm w' hs p hp1 hp2, ?_⟩)
    exact hki v L' hm Q' hp0 hQ hsel _ _ w' hpi (ha.putE hdi v) (hG.put hfi v) hs (fun p hp1 => hsti v L' hm w' hs p (List.mem_filter.1 hp1).1 (by simpa using (List.mem_filter.1 hp1).2))
  rcases List.mem_cons.1 hk with rfl | hk
  · unfold wpOp
    rw [hj']
    simp only [gOn_wanted hG hgj, if_true]
    refine .inl (hj2.wp ha hw fun v L' w' hm hs => ⟨fun p hp1 hp2 => hstj v L' hm w' hs p hp1 hp2, ?_⟩)
    rw [hlen]
    exact hkj v L' hm Q' hp0 hQ hsel _ _ w' hpj (ha.putE hdj v) (hG.put hfj v) hs (fun p hp1 => hstj v L' hm w' hs p (List.mem_filter.1 hp1).1 (by simpa using (List.mem_filter.1 hp1).2))
  · rw [List.mem_singleton] at hk
    subst hk
    unfold wpOp
    rw [hm']
    simp only [gOn_wanted hG hgm, if_true]
    refine .inl (hm2.wp ha hw fun v L' w' hm hs => ⟨fun p hp1 hp2 => hstm v L' hm w' hs p hp1 hp2, ?_⟩)
    rw [hlen2]
    exact hkm v L' hm Q' hp0 hQ hsel _ _ w' hpm (ha.putE hdm v) (hG.put hfm v) hs (fun p hp1 => hstm v L' hm w' hs p (List.mem_filter.1 hp1).1 (by simpa using (List.mem_filter.1 hp1).2))

theorem VA.split (d : Nat) {b : Bool} (hb : look e d = some (.bool b)) (hd : Nat.blt d X.n = true)
    (ht : b = true → VA X ops ((d, true) :: G) pl S ((d, .bool true) :: e) L K) (hf : b = false → VA X ops ((d, false) :: G) pl S ((d, .bool false) :: e) L K) : VA X ops G pl S e L K := by
  intro Q' hp0 hQ hsel listed a w hp ha hG hw hall
  have hs : a.tmps[d]? = some (.bool b) := by
    have := ha.at_ d _ hb
    have hlt : d < a.tmps.size := by rw [ha.size]; exact Nat.blt_eq.mp hd
    simpa [hlt] using this
  have key : ∀ c, b = c → Agr X.n a ((d, .bool c) :: e) ∧ GOk ((d, c) :: G) a := fun c hc => by
    subst hc
    refine ⟨⟨ha.size, ha.defers, fun t u ht => ?_⟩, fun t u ht => ?_⟩
    · simp only [look] at ht
      cases hq : Nat.beq d t
      · rw [hq] at ht; exact ha.at_ t u ht
      · rw [hq] at ht
        have := Nat.eq_of_beq_eq_true hq
        subst this
        simp only [cond_true, Option.some.injEq] at ht
        subst ht; exact ha.at_ _ _ hb
    · simp only [gLook] at ht
      cases hq : Nat.beq d t
      · rw [hq] at ht; exact hG t u ht
      · rw [hq] at ht
        have := Nat.eq_of_beq_eq_true hq
        subst this
        simp only [cond_true, Option.some.injEq] at ht
        subst ht; exact hs
  cases b
  · exact hf rfl Q' hp0 hQ hsel listed a w hp (key _ rfl).1 (key _ rfl).2 hw hall
  · exact ht rfl Q' hp0 hQ hsel listed a w hp (key _ rfl).1 (key _ rfl).2 hw hall
theorem VA.yes (d : Nat) {b : Bool} (c : Bool) (hb : look e d = some (.bool b)) (hc : b = c) (h : VA X ops ((d, c) :: G) pl S ((d, .bool c) :: e) L K) (hd : Nat.blt d X.n = true := by rfl) : VA X ops G pl S e L K := by
  subst hc
  refine VA.split d hb hd (fun h' => ?_) (fun h' => ?_)
  · subst h'; exact h
  · subst h'; exact h
theorem VA.ent {L' : List HP} (hs : Ent X L L') (h : VA X ops G pl S e L' K) : VA X ops G pl S e L K :=
  fun Q' hp0 hQ hsel listed a w hp ha hG hw hall => h Q' hp0 hQ hsel listed a w hp ha hG (hs w hw) hall
end

/-- As far as operations only compute, along the plan. -/
def runA (n : Nat) (tab : Tab) (ops : List Oper) (G : GS) : Plan → Env → (Plan → Env → Prop) → Prop
  | .nil, e, k => k .nil e
  | .only i r, e, k => k (.only i r) e
  | .two i j p q, e, k => k (.two i j p q) e
  | .three i j m p q r, e, k => k (.three i j m p q r) e
  | .take i r, e, k => nthK ops i (fun o => match o.dst with
    | none => k (.take i r) e
    | some d => match gLook G d, Nat.blt d n with
      | none, true => match o.guard with
        | none => pureK tab e o.op (fun v => runA n tab ops G r ((d, v) :: e) k) (k (.take i r) e)
        | some (j, want) => nthK ops j (fun oj => match oj.dst with
          | some dj => match gLook G dj with
            | some b => match gB b want with
              | true => pureK tab e o.op (fun v => runA n tab ops G r ((d, v) :: e) k) (k (.take i r) e)
              | false => runA n tab ops G r ((d, undef) :: e) k
            | none => k (.take i r) e
          | none => k (.take i r) e) (k (.take i r) e)
      | _, _ => k (.take i r) e) (k (.take i r) e)

theorem VA.go {X : Cx} {ops : Array Oper} {G : GS} {S : Pend} {L : List HP} {K : Env → List HP → Prop} : ∀ {pl : Plan} {e : Env},
    runA X.n X.tab ops.toList G pl e (fun pl' e' => VA X ops G pl' S e' L K) → VA X ops G pl S e L K
  | .nil, e, h => h
  | .only i r, e, h => h
  | .two i j p q, e, h => h
  | .three i j m p q r, e, h => h
  | .take i r, e, h => by
    unfold runA at h
    rcases nthK_spec h with ⟨o, ho, h⟩ | h
    case inr => exact h
    split at h
    · exact h
    · rename_i d hd
      split at h
      · rename_i hgl hlt
        have hdst : dstOk X.n o.dst = true := by rw [hd]; exact hlt
        have hfree : gFree G o.dst = true := by rw [hd]; simp [gFree, hgl]
        have step : ∀ {v}, gOn ops G o.guard = some true → Light X o.op e v → runA X.n X.tab ops.toList G r ((d, v) :: e) (fun pl' e' => VA X ops G pl' S e' L K) → VA X ops G (.take i r) S e L K := fun {v} hg hl hk => by
          refine VA.pure ho hg hdst hfree hl ?_
          rw [hd]
          exact VA.go hk
        split at h
        · rename_i hgd
          rcases pureK_light h with ⟨v, hl, hk⟩ | h
          · exact step (by rw [hgd]; rfl) hl hk
          · exact h
        · rename_i j want hgd
          rcases nthK_spec h with ⟨oj, hj, h⟩ | h
          · split at h
            · rename_i dj hdj
              split at h
              · rename_i b hb
                have hgo : gOn ops G o.guard = some (gB b want) := by
                  rw [hgd]; simp only [gOn, hj, hdj, hb]
                split at h
                · rename_i hbw
                  rw [hbw] at hgo
                  rcases pureK_light h with ⟨v, hl, hk⟩ | h
                  · exact step hgo hl hk
                  · exact h
                · rename_i hbw
                  rw [hbw] at hgo
                  refine VA.off ho hgo hdst hfree ?_
                  rw [hd]
                  exact VA.go h
              · exact h
            · exact h
          · exact h
      · exact h

/-- The region, by a plan. -/
theorem VC.draw {X : Cx} {id : Nat} {l : List Oper} {e : Env} {L : List HP} {Q : Exit → Env → List HP → Prop} (pl : Plan) (hmix : X.P.follows .mixedOrders = true)
    (hp : (Region.noSelect l.toArray && Nat.beq pl.len l.length && planB l.toArray (Array.replicate l.length false) pl) = true)
    (h : VA X l.toArray [] pl [] e L (Q .normal)) : VC X (.region id l.toArray true) e L Q := by
  intro a w ha hw
  simp only [Bool.and_eq_true] at hp
  have hlen : pl.len = l.length := Nat.eq_of_beq_eq_true hp.1.2
  refine Code.wp_mono (Q := fun x a' w' => match x with | .normal => ∃ e' L', Agr X.n a' e' ∧ St X L' w' ∧ Q .normal e' L' | _ => False) (fun x a' w' hx => ?_) (wp_region_any hmix ?_)
  · cases x <;> first | exact hx | exact hx.elim
  · have := h (fun x a' w' => match x with | .normal => ∃ e' L', Agr X.n a' e' ∧ St X L' w' ∧ Q .normal e' L' | _ => False) (fun _ _ _ h => h) (fun e' L' _ _ h1 h2 h3 => ⟨e', L', h1, h2, h3⟩) hp.1.1
      (Array.replicate l.length false) a { w with drawn := w.drawn + 1 } hp.2 ha (GOk.nil a) hw.drew (fun _ h => by cases h)
    rw [hlen] at this
    have h2 := wpAny_of_P _ _ _ _ _ this
    simpa using h2
end Go.Proofs.YtbbnmgakmcppdaaGreat.Vg
