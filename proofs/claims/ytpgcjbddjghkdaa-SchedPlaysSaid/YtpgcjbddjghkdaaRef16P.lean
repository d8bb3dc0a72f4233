/- The reference's scheduler: what is taken out. Conditions: quanta that can be read, and not too much served. -/
import Derived.Test.YtpgcjbddjghkdaaRef16
import Derived.Test.YtpgcjbddjghkdaaSCredit
namespace Go.Proofs.Ytpgcjbddjghkdaa.Ref16
open Go Go.Proofs.Ytpgcjbddjghkdaa.Vg Go.Proofs.Ytpgcjbddjghkdaa.T Go.Proofs.Ytpgcjbddjghkdaa.Api Go.Proofs.Ytpgcjbddjghkdaa.Sched
set_option linter.unusedSimpArgs false
set_option linter.unusedVariables false
attribute [local irreducible] VO VC VA

def popRf (p : Nat) (a : Option Addr) (S : SchM) (v : Value) (L : List HP) : Prop := match S.popM with
  | some (f, S1) => (∃ m, v = .tuple #[.agg (fmc (f, m)).toArray, .bool true]) ∧ L = [rfH p a S1]
  | none => v = .tuple #[.agg (fmc fmz).toArray, .bool false] ∧ L = [rfH p a S]
theorem crs_set2 {l : List ClsM} {k : Nat} {c c1 : ClsM} {x : Int} (hx : x = c.credit) : (crs (l.set k c1)).set (0 + k * 1) (.int .i64 x) = crs (l.set k c) := by rw [crs_set hx, List.set_set]
theorem crs_congr {l : List ClsM} {k : Nat} {c c1 : ClsM} (h : c1.credit = c.credit) : crs (l.set k c1) = crs (l.set k c) := by simp only [crs, List.map_set, h]
theorem svs_congr {l : List ClsM} {k : Nat} {c c1 : ClsM} (h : c1.served = c.served) : svs (l.set k c1) = svs (l.set k c) := by simp only [svs, List.map_set, h]
def few (S : SchM) (B : Int) : Prop := ∀ c ∈ S.cls, c.served ≤ B
theorem few_set {S : SchM} {B : Int} {k t : Nat} {c' : ClsM} {fr : Bool} (h : few S B) (hc : c'.served ≤ B) : few ⟨S.cls.set k c', S.cap, t, fr⟩ B := fun x hx => by
  rcases List.mem_or_eq_of_mem_set hx with hx | rfl
  · exact h x hx
  · exact hc
theorem quanta_set {l : List ClsM} {k : Nat} {c c' : ClsM} (hc : l[k]? = some c) (h : c'.quantum = c.quantum) : (l.set k c').map ClsM.quantum = l.map ClsM.quantum := by
  rw [List.map_set, h]
  have : (l.map ClsM.quantum)[k]? = some c.quantum := by rw [List.getElem?_map, hc]; rfl
  exact list_set_same this
theorem popF_keeps {N : Nat} {S S1 : SchM} {f : FrameM} {qs : List Int} {B : Int} (hw : S.Wf) (hq : S.cls.map ClsM.quantum = qs) (hB : few S B) (h : S.popF N = some (f, S1)) : S1.cls.map ClsM.quantum = qs ∧ few S1 (B + 96) := by
  refine popF_ind (fun S => S.cls.map ClsM.quantum = qs ∧ few S B) (fun _ S1 => S1.cls.map ClsM.quantum = qs ∧ few S1 (B + 96)) ?_ ?_ ?_ hw ⟨hq, hB⟩ h
  · rintro S c hw ⟨h1, h2⟩ hc _
    refine ⟨Eq.trans ?_ h1, few_set h2 (h2 c (List.mem_of_getElem? hc))⟩; exact quanta_set hc rfl
  · rintro S c g q hw ⟨h1, h2⟩ hc _ _
    refine ⟨Eq.trans ?_ h1, few_set h2 (h2 c (List.mem_of_getElem? hc))⟩; exact quanta_set hc rfl
  · rintro S c g q hw ⟨h1, h2⟩ hc _ _
    have h3 := h2 c (List.mem_of_getElem? hc)
    have h4 := opCost_le g.op
    have h5 : (c.c2 S.fresh g q).served ≤ B + 96 := by
      show SchM.served2 (c.served + opCost g.op) ≤ _
      unfold SchM.served2; split <;> omega
    have h6 : few S (B + 96) := fun c hc => by have := h2 c hc; omega
    split
    · refine ⟨Eq.trans ?_ h1, few_set h6 h5⟩; exact quanta_set hc rfl
    · refine ⟨Eq.trans ?_ h1, few_set h6 h5⟩; exact quanta_set hc rfl
theorem popM_keeps {S S1 : SchM} {f : FrameM} {qs : List Int} {B : Int} (hw : S.Wf) (hq : S.cls.map ClsM.quantum = qs) (hB : few S B) (h : S.popM = some (f, S1)) : S1.cls.map ClsM.quantum = qs ∧ few S1 (B + 96) := by
  unfold SchM.popM at h
  split at h
  · cases h
  · exact popF_keeps hw hq hB h
theorem tail_v {r : FL} {x : FM} {xs : List FM} {b off : Nat} (hx : r.xs = x :: xs) (h2 : r.addr = some ⟨b, off, none⟩) : Value.slice (some (if r.cap = 1 then ⟨b, off, none⟩ else ⟨b, off + 29, none⟩)) xs.length (r.cap - 1) = (r.tail 29).v := by
  simp [RL.v, RL.tail, hx, h2]

set_option maxRecDepth 100000 in
theorem pop_spec (Fr : Nat → Prop) (w : World) (p : Nat) (a : Option Addr) (S0 : SchM) (qs : List Int) (B : Int) (hq : IntsIn Fr w a qs) (hqs : S0.cls.map ClsM.quantum = qs) (hB : few S0 B) (hB2 : B ≤ 1000000000) :
    Tri Try.prog 27 [.pointer (some ⟨p, 0, none⟩)] Fr w [rfH p a S0] (popRf p a S0) := by
  refine Tri.of 166 Try.func27 rfl (by kernel_rfl) tabOk rfl rfl ?_
  refine VC.seq (VC.region (VO.go (VO.alloc rfl fun b => VO.go (VO.nil ?_))))
  refine VC.opn 1 rfl (HOpn.rf p a S0) fun s0 h0 => ?_
  refine VC.ent (L' := pt b (fmc fmz) 44 :: rfL p S0 s0) (Imp.perm List.perm_append_comm).ent ?_
  have hn4 := h0.wf.n1
  refine VC.seq (VC.region (VO.go (VO.nil ?_)))
  refine VC.meet (σ := Unit) (fun _ => [(0, .pointer (some ⟨p, 0, none⟩)), (2, .pointer (some ⟨b, 0, none⟩)), (4, .bool (!S0.idle))]) (fun _ => pt b (fmc fmz) 44 :: rfL p S0 s0) (fun _ => True) ?_ ?_
  · (repeat (first | refine VC.seq ?_ | refine VC.region ?_ | refine VC.block ?_ | refine VC.label ?_ | refine VC.scope ?_ | refine VO.go (VO.nil ?_) | refine VO.go (VO.ld 0 rfl rfl rfl rfl ?_)))
    refine VC.loop (σ := Nat × Bool) (fun x => [(0, .pointer (some ⟨p, 0, none⟩)), (2, .pointer (some ⟨b, 0, none⟩)), (4, .bool x.2), (5, .int .i64 x.1)]) (fun _ => pt b (fmc fmz) 44 :: rfL p S0 s0) (fun x => x.1 ≤ S0.cls.length ∧ x.2 = !((S0.cls.take x.1).all fun c => c.q.isEmpty)) (fun x => 4 - x.1) (0, false) ⟨Nat.zero_le _, rfl⟩ (Sub.cons rfl (Sub.cons rfl (Sub.cons rfl (Sub.cons rfl (Sub.nil _))))) Ent.refl ?_
    rintro ⟨i, wt⟩ ⟨hi, hwt⟩
    dsimp only at hi hwt ⊢
    (repeat (first | refine VC.seq ?_ | refine VC.region ?_ | refine VC.block ?_ | refine VC.label ?_ | refine VC.scope ?_ | refine VO.go (VO.nil ?_) | refine VO.go (VO.ld 0 rfl rfl rfl rfl ?_) | refine VO.go (VO.ld 1 rfl rfl rfl rfl ?_)))
    refine VC.condP rfl (fun h1 => VC.skip ?_) (fun h1 => VC.exit ?_)
    · have hk : i < S0.cls.length := by omega
      obtain ⟨r, c, hr, hc, hok, hl⟩ := h0.row hk
      have hlen : r.xs.length = c.q.length := by have := congrArg List.length hl; simpa using this
      have hall : ((S0.cls.take (i + 1)).all fun c => c.q.isEmpty) = (((S0.cls.take i).all fun c => c.q.isEmpty) && c.q.isEmpty) := by rw [List.take_add_one, hc, List.all_append]; simp
      (repeat (first | refine VC.seq ?_ | refine VC.region ?_ | refine VC.block ?_ | refine VC.label ?_ | refine VC.scope ?_ | refine VO.go (VO.nil ?_) | refine VO.go (VO.ld 0 rfl rfl rfl rfl ?_) | refine VO.go (VO.ld 1 rfl rfl rfl rfl ?_)))
      refine VO.go (VO.split 19 rfl rfl (fun h2 => VO.go (VO.nil ?_)) (fun h2 => ?_))
      · subst h2
        (repeat (first | refine VC.seq ?_ | refine VC.region ?_ | refine VC.block ?_ | refine VC.label ?_ | refine VC.scope ?_ | refine VO.go (VO.nil ?_) | refine VO.go (VO.ld 0 rfl rfl rfl rfl ?_) | refine VO.go (VO.ld 1 rfl rfl rfl rfl ?_)))
        refine VO.go (VO.add rfl rfl (by omega) (by omega) ?_)
        (repeat (first | refine VC.seq ?_ | refine VC.region ?_ | refine VC.block ?_ | refine VC.label ?_ | refine VC.scope ?_ | refine VO.go (VO.nil ?_) | refine VO.go (VO.ld 0 rfl rfl rfl rfl ?_)))
        refine ⟨(i + 1, true), ⟨hk, ?_⟩, by dsimp only; omega, Sub.cons rfl (Sub.cons rfl (Sub.cons rfl (Sub.cons rfl (Sub.nil _)))), Ent.refl⟩
        dsimp only
        rw [hall, Bool.not_and, ← hwt]; rfl
      · subst h2
        (repeat (first | refine VC.seq ?_ | refine VC.region ?_ | refine VC.block ?_ | refine VC.label ?_ | refine VC.scope ?_ | refine VO.go (VO.nil ?_) | refine VO.go (VO.ld 0 rfl rfl rfl rfl ?_) | refine VO.go (VO.ld 1 rfl rfl rfl rfl ?_)))
        refine VO.go (VO.light (light_idx i rfl rfl rfl rfl rfl rfl hk) ?_)
        refine VO.go (VO.ld 2 rfl rfl rfl (rows_v hr) (VO.go (VO.nil ?_)))
        (repeat (first | refine VC.seq ?_ | refine VC.region ?_ | refine VC.block ?_ | refine VC.label ?_ | refine VC.scope ?_ | refine VO.go (VO.nil ?_) | refine VO.go (VO.ld 0 rfl rfl rfl rfl ?_) | refine VO.go (VO.ld 1 rfl rfl rfl rfl ?_)))
        refine VO.go (VO.add rfl rfl (by omega) (by omega) ?_)
        (repeat (first | refine VC.seq ?_ | refine VC.region ?_ | refine VC.block ?_ | refine VC.label ?_ | refine VC.scope ?_ | refine VO.go (VO.nil ?_) | refine VO.go (VO.ld 0 rfl rfl rfl rfl ?_)))
        refine ⟨(i + 1, decide (0 < (r.xs.length : Int))), ⟨hk, ?_⟩, by dsimp only; omega, Sub.cons rfl (Sub.cons rfl (Sub.cons rfl (Sub.cons rfl (Sub.nil _)))), Ent.refl⟩
        dsimp only
        rw [hall, Bool.not_and, ← hwt, Bool.false_or]
        cases hcq : c.q with
        | nil => rw [hcq] at hlen; simp [hlen]
        | cons _ _ => rw [hcq] at hlen; simp [hlen, -List.length_cons]; simp
    · have hk : i = S0.cls.length := by omega
      subst hk
      rw [List.take_length] at hwt
      exact ⟨(), trivial, Sub.cons rfl (Sub.cons rfl (Sub.cons (by rw [hwt]; rfl) (Sub.nil _))), Ent.refl⟩
  intro _ _
  cases hi : S0.idle with
  | true =>
    have e : S0.popM = none := by unfold SchM.popM; rw [hi]; rfl
    (repeat (first | refine VC.seq ?_ | refine VC.region ?_ | refine VC.block ?_ | refine VC.label ?_ | refine VC.scope ?_ | refine VO.go (VO.nil ?_) | refine VO.go (VO.ld 0 rfl rfl rfl rfl ?_)))
    refine VC.loop (σ := Unit) (fun _ => [(2, .pointer (some ⟨b, 0, none⟩)), (4, .bool false)]) (fun _ => pt b (fmc fmz) 44 :: rfL p S0 s0) (fun _ => True) (fun _ => 0) () trivial (Sub.cons rfl (Sub.cons rfl (Sub.nil _))) Ent.refl ?_
    intro _ _
    (repeat (first | refine VC.seq ?_ | refine VC.region ?_ | refine VC.block ?_ | refine VC.label ?_ | refine VC.scope ?_ | refine VO.go (VO.nil ?_) | refine VO.go (VO.ld 0 rfl rfl rfl rfl ?_)))
    refine VC.condF rfl (VC.exit ?_)
    (repeat (first | refine VC.seq ?_ | refine VC.region ?_ | refine VC.block ?_ | refine VC.label ?_ | refine VC.scope ?_ | refine VO.go (VO.nil ?_) | refine VO.go (VO.ld 0 rfl rfl rfl rfl ?_)))
    refine VO.go (VO.light (light_build (pv := []) (fmc fmz) rfl rfl rfl rfl rfl) ?_)
    refine VO.go (VO.stA (vs := fmc fmz) (cs' := fmc fmz) 0 rfl rfl rfl rfl (Nat.le_refl _) rfl rfl rfl (VO.go (VO.nil ?_)))
    refine VC.ret (Ret.cellTmp 2 3 rfl rfl rfl (RdL.many 0 rfl rfl) rfl (L' := [rfH p a S0]) (Imp.trans Imp.tl (rf_shut s0 h0 Imp.refl)).ent ?_)
    unfold popRf; rw [e]; exact ⟨rfl, rfl⟩
  | false =>
  obtain ⟨f, S1, hp⟩ := popF_some h0.wf hi
  have hpm : S0.popM = some (f, S1) := by unfold SchM.popM; rw [hi]; exact hp
  (repeat (first | refine VC.seq ?_ | refine VC.region ?_ | refine VC.block ?_ | refine VC.label ?_ | refine VC.scope ?_ | refine VO.go (VO.nil ?_) | refine VO.go (VO.ld 0 rfl rfl rfl rfl ?_)))
  refine VC.loop (σ := Nat × SchM × RfS) (fun _ => [(0, .pointer (some ⟨p, 0, none⟩)), (2, .pointer (some ⟨b, 0, none⟩)), (4, .bool true)]) (fun x => pt b (fmc fmz) 44 :: rfL p x.2.1 x.2.2) (fun x => RfOk x.2.1 a x.2.2 ∧ x.2.1.popF x.1 = some (f, S1) ∧ x.2.1.cls.map ClsM.quantum = qs ∧ few x.2.1 B) (fun x => x.1) (9, S0, s0) ⟨h0, hp, hqs, hB⟩ (Sub.cons rfl (Sub.cons rfl (Sub.cons rfl (Sub.nil _)))) Ent.refl ?_
  clear hp hqs hB hn4
  rintro ⟨N, S, s⟩ ⟨h, hp, hqs, hB⟩
  dsimp only at h hp hqs hB ⊢
  have hn4 := h.wf.n1
  have ht := h.wf.turn
  have hls := h.len
  obtain ⟨r, c, hr, hc, hok, hl⟩ := h.row ht
  have hcrl : ∀ l : List ClsM, l.length = S.cls.length → 0 + S.turn * 1 < (crs l).length := fun l hl => by rw [crs_len, hl]; omega
  have hlen : r.xs.length = c.q.length := by have := congrArg List.length hl; simpa using this
  cases N with
  | zero => simp [SchM.popF] at hp
  | succ N =>
  rw [popF_succ hc] at hp
  (repeat (first | refine VC.seq ?_ | refine VC.region ?_ | refine VC.block ?_ | refine VC.label ?_ | refine VC.scope ?_ | refine VO.go (VO.nil ?_) | refine VO.go (VO.ld 0 rfl rfl rfl rfl ?_)))
  refine VC.condT rfl (VC.skip ?_)
  (repeat (first | refine VC.seq ?_ | refine VC.region ?_ | refine VC.block ?_ | refine VC.label ?_ | refine VC.scope ?_ | refine VO.go (VO.nil ?_) | refine VO.go (VO.ld 0 rfl rfl rfl rfl ?_) | refine VO.go (VO.ld 1 rfl rfl rfl rfl ?_)))
  refine VO.go (VO.light (light_idx S.turn rfl rfl rfl rfl rfl rfl ht) ?_)
  refine VO.go (VO.ld 2 rfl rfl rfl (rows_v hr) (VO.go (VO.nil ?_)))
  refine VC.condE rfl (fun hz => ?_) (fun hz => VC.skip ?_)
  · have hz : c.q = [] := List.eq_nil_of_length_eq_zero (by omega)
    simp only [hz] at hp
    have hwf := h.wf.turned (c' := c.c0) (h.wf.cls c (List.mem_of_getElem? hc)).empty (h.wf.qs c (List.mem_of_getElem? hc)) (by show (0 : Int) ≤ 95; omega)
    (repeat (first | refine VC.seq ?_ | refine VC.region ?_ | refine VC.block ?_ | refine VC.label ?_ | refine VC.scope ?_ | refine VO.go (VO.nil ?_) | refine VO.go (VO.ld 0 rfl rfl rfl rfl ?_) | refine VO.go (VO.ld 1 rfl rfl rfl rfl ?_)))
    refine VO.go (VO.light (light_idx S.turn rfl rfl rfl rfl rfl rfl ht) ?_)
    refine VO.go (VO.st 3 rfl rfl rfl rfl (hcrl _ rfl) (crs_set (c := c.c0) rfl) rfl (VO.go (VO.nil ?_)))
    (repeat (first | refine VC.seq ?_ | refine VC.region ?_ | refine VC.block ?_ | refine VC.label ?_ | refine VC.scope ?_ | refine VO.go (VO.nil ?_) | refine VO.go (VO.ld 0 rfl rfl rfl rfl ?_)))
    refine VO.go (VO.callAt 1 (ψ := fun v H => v = .tuple #[] ∧ H = pt p (rfC s S.cls.length S.cap ((S.turn + 1) % S.cls.length : Nat) true) 91) rfl (fun Fr w _ _ _ => on_spec Fr w ht hn4) rfl (fun v L1 ⟨h1, h2⟩ => ⟨_, h2, h1, rfl⟩) ?_)
    rintro _ _ ⟨rfl, rfl⟩
    refine VO.go (VO.nil (VC.exit ⟨(N, _, s), ⟨h.setC (c' := c.c0) hc rfl hwf, hp, (quanta_set (c' := c.c0) hc rfl).trans hqs, few_set hB (hB c (List.mem_of_getElem? hc))⟩, Nat.lt_succ_self N, Sub.cons rfl (Sub.cons rfl (Sub.cons rfl (Sub.nil _))), ?_⟩))
    refine (Imp.of_eq ?_).ent
    simp only [rfL, List.length_set, svs_same hc (show c.c0.served = c.served from rfl)]; rfl
  obtain ⟨g, q', hq'⟩ : ∃ g q', c.q = g :: q' := by
    cases hcq : c.q with
    | nil => rw [hcq] at hlen; exact absurd (by rw [hlen]; rfl) hz
    | cons g q' => exact ⟨g, q', rfl⟩
  obtain ⟨x, xs, hx⟩ : ∃ x xs, r.xs = x :: xs := by
    cases hrx : r.xs with
    | nil => rw [hrx] at hlen; rw [hq'] at hlen; simp at hlen
    | cons x xs => exact ⟨x, xs, rfl⟩
  obtain ⟨g', m⟩ := x
  obtain ⟨rfl, hxs⟩ : g' = g ∧ xs.map Prod.fst = q' := by rw [hx, hq'] at hl; simpa using hl
  obtain ⟨bk, off, hbk, had, hfirst⟩ := hok.first hx
  have hv : r.v = .slice (some ⟨bk, off, none⟩) (xs.length + 1) r.cap := by rw [RL.v, had, hx]; rfl
  have hrv : (s.rows.map RL.v)[0 + S.turn * 1]? = some (.slice (some ⟨bk, off, none⟩) (xs.length + 1) r.cap) := hv ▸ rows_v hr
  have hwc := h.wf.cls c (List.mem_of_getElem? hc)
  simp only [hq'] at hp
  have hmem := List.mem_of_getElem? hc
  have hql := h.wf.qs c hmem
  have hq0 := hwc.q0; have hq1 := hwc.q1; have hc0 := hwc.c0; have hc1 := hwc.c1; have hs0 := hwc.s0; have hsB := hB c hmem
  have hself : ∀ c' : ClsM, (S.cls.set S.turn c')[S.turn]? = some c' := fun c' => List.getElem?_set_self ht
  obtain ⟨qb, qo, hua, hFq, hqcell⟩ := hq.at_ (fun e => by have h2 : S.cls.length = 0 := by { rw [← List.length_map (f := ClsM.quantum), hqs, e]; rfl }; omega)
  have hqk : w.cell? ⟨qb, qo + S.turn * 1, none⟩ = some (.int .i64 c.quantum) := by
    rw [Nat.mul_one]
    exact hqcell _ _ (by rw [← hqs, List.getElem?_map, hc]; rfl)
  have hsu : some (Value.slice s.ua S.cls.length s.uc) = some (Value.slice (some ⟨qb, qo, none⟩) S.cls.length s.uc) := by rw [h.ua.trans hua]
  refine VC.meet (σ := Unit) (fun _ => [(0, .pointer (some ⟨p, 0, none⟩)), (2, .pointer (some ⟨b, 0, none⟩)), (4, .bool true), (6, .int .i64 S.turn)])
    (fun _ => pt b (fmc fmz) 44 :: pt p (rfC s S.cls.length S.cap S.turn false) 91 :: pt s.qb (s.rows.map RL.v) 56 :: pt s.cb (crs (S.cls.set S.turn (c.c1 S.fresh))) 3 :: pt s.sb (svs S.cls) 3 :: rfR s) (fun _ => True) ?_ ?_
  · (repeat (first | refine VC.seq ?_ | refine VC.region ?_ | refine VC.block ?_ | refine VC.label ?_ | refine VC.scope ?_ | refine VO.go (VO.nil ?_) | refine VO.go (VO.ld 0 rfl rfl rfl rfl ?_) | refine VO.go (VO.ld 1 rfl rfl rfl rfl ?_)))
    refine VC.cond (t := S.fresh) rfl (fun hf => ?_) (fun hf => VC.skip ⟨(), trivial, Sub.cons rfl (Sub.cons rfl (Sub.cons rfl (Sub.cons rfl (Sub.nil _)))), Ent.of_eq ?_⟩)
    · refine VC.seq (VC.draw (ts 0 21 (.only 21 .nil)) (by kernel_rfl) (by decide +kernel) ?_)
      (repeat (first | refine VA.go (VA.nil ?_) | refine VA.go (VA.ld 0 rfl rfl rfl rfl rfl ?_) | refine VA.go (VA.ld 1 rfl rfl rfl rfl rfl ?_)))
      refine VA.go (VA.light rfl (light_idx S.turn rfl rfl rfl rfl rfl rfl ht) ?_)
      refine VA.go (VA.ld 3 rfl rfl rfl rfl (crs_at hc) ?_)
      (repeat (first | refine VA.go (VA.nil ?_) | refine VA.go (VA.ld 0 rfl rfl rfl rfl rfl ?_) | refine VA.go (VA.ld 1 rfl rfl rfl rfl rfl ?_)))
      refine VA.go (VA.light rfl (light_idx S.turn hsu rfl rfl rfl rfl rfl ht) ?_)
      refine VA.go (VA.load rfl rfl rfl (RdL.rd (v := .int .i64 c.quantum) hFq hqk) ?_)
      refine VA.go (VA.add rfl rfl rfl (by omega) (by omega) ?_)
      refine VA.go (VA.light rfl (light_idx S.turn rfl rfl rfl rfl rfl rfl ht) ?_)
      refine VA.go (VA.st 3 rfl rfl rfl rfl rfl (hcrl _ rfl) (crs_set (c := c.c1 S.fresh) (by rw [hf]; rfl)) rfl (by (try refine Pd.st ?_); (repeat (first | exact Pd.nil | exact Pd.fnil | refine Pd.inner ?_ | refine Pd.skip (by decide +kernel) ?_ | refine Pd.fcons (RdL.one 0 rfl rfl) ?_ | refine Pd.fcons (RdL.one 1 rfl rfl) ?_ | refine Pd.fcons (RdL.many 0 rfl rfl) ?_ | refine Pd.fcons (RdL.many 1 rfl rfl) ?_ | refine Pd.cons (RdL.one 0 rfl rfl) ?_ | refine Pd.cons (RdL.one 1 rfl rfl) ?_ | refine Pd.cons (RdL.many 0 rfl rfl) ?_ | refine Pd.cons (RdL.many 1 rfl rfl) ?_))) ?_)
      (repeat (first | refine VA.go (VA.nil ?_) | refine VA.go (VA.ld 0 rfl rfl rfl rfl rfl ?_)))
      (repeat (first | refine VC.seq ?_ | refine VC.region ?_ | refine VC.block ?_ | refine VC.label ?_ | refine VC.scope ?_ | refine VO.go (VO.nil ?_) | refine VO.go (VO.ld 0 rfl rfl rfl rfl ?_) | refine VO.go (VO.ld 1 rfl rfl rfl rfl ?_)))
      refine VO.go (VO.st 1 rfl rfl rfl rfl (by show 6 < 7; omega) rfl rfl (VO.go (VO.nil ?_)))
      exact ⟨(), trivial, Sub.cons rfl (Sub.cons rfl (Sub.cons rfl (Sub.cons rfl (Sub.nil _)))), Ent.refl⟩
    · unfold rfL
      rw [hf, crs_same hc (c' := c.c1 false) rfl]
  intro _ _
  have hcost := opCost_le g'.op
  have hw1 := h.wf.c1 hc
  have hc10 := hw1.c0; have hc11 := hw1.c1
  have hc11 : (c.c1 S.fresh).credit ≤ c.quantum + 95 := hc11
  have hrowk : (rfR s)[S.turn]? = some (pt bk r.cells 44) := by rw [rf_h hr, RL.h_pt hbk]
  (repeat (first | refine VC.seq ?_ | refine VC.region ?_ | refine VC.block ?_ | refine VC.label ?_ | refine VC.scope ?_ | refine VO.go (VO.nil ?_) | refine VO.go (VO.ld 0 rfl rfl rfl rfl ?_) | refine VO.go (VO.ld 1 rfl rfl rfl rfl ?_)))
  refine VO.go (VO.light (light_idx S.turn rfl rfl rfl rfl rfl rfl ht) ?_)
  refine VO.go (VO.ld 2 rfl rfl rfl hrv ?_)
  refine VO.go (VO.light (light_idx 0 rfl rfl rfl rfl rfl rfl (by omega)) ?_)
  refine VO.go (VO.load rfl rfl (v := .agg (fmc (g', m)).toArray) (RdL.many (S.turn + 5) (t := 44) (cs := r.cells) hrowk (by rw [Nat.zero_mul, Nat.add_zero]; exact hfirst)) ?_)
  refine VO.go (VO.alloc rfl fun b7 => VO.go (VO.stA (vs := fmc (g', m)) (cs' := fmc (g', m)) 0 rfl rfl rfl rfl (Nat.le_refl _) rfl rfl rfl (VO.go (VO.nil ?_))))
  (repeat (first | refine VC.seq ?_ | refine VC.region ?_ | refine VC.block ?_ | refine VC.label ?_ | refine VC.scope ?_ | refine VO.go (VO.nil ?_) | refine VO.go (VO.ld 0 rfl rfl rfl rfl ?_)))
  refine VO.go (VO.ldA 0 g'.op.cells rfl rfl rfl rfl (VO.go (VO.callV (fun Fr w => rcost_spec Fr w g'.op) rfl (VO.go (VO.nil ?_)))))
  (repeat (first | refine VC.seq ?_ | refine VC.region ?_ | refine VC.block ?_ | refine VC.label ?_ | refine VC.scope ?_ | refine VO.go (VO.nil ?_) | refine VO.go (VO.ld 0 rfl rfl rfl rfl ?_) | refine VO.go (VO.ld 1 rfl rfl rfl rfl ?_) | refine VO.go (VO.ld 2 rfl rfl rfl rfl ?_)))
  refine VO.go (VO.light (light_idx S.turn rfl rfl rfl rfl rfl rfl ht) ?_)
  refine VO.go (VO.ld 4 rfl rfl rfl (crs_at (hself _)) (VO.go (VO.nil ?_)))
  refine VC.condP rfl (fun hlt => ?_) (fun hlt => VC.skip ?_)
  · have hlt : (c.c1 S.fresh).credit < opCost g'.op := hlt
    rw [if_pos hlt] at hp
    have hwf := h.wf.turned (c' := c.c1 S.fresh) hw1 hql (by omega)
    (repeat (first | refine VC.seq ?_ | refine VC.region ?_ | refine VC.block ?_ | refine VC.label ?_ | refine VC.scope ?_ | refine VO.go (VO.nil ?_) | refine VO.go (VO.ld 0 rfl rfl rfl rfl ?_)))
    refine VO.go (VO.callAt 2 (ψ := fun v H => v = .tuple #[] ∧ H = pt p (rfC s S.cls.length S.cap ((S.turn + 1) % S.cls.length : Nat) true) 91) rfl (fun Fr w _ _ _ => on_spec Fr w ht hn4) rfl (fun v L1 ⟨h1, h2⟩ => ⟨_, h2, h1, rfl⟩) ?_)
    rintro _ _ ⟨rfl, rfl⟩
    refine VO.go (VO.nil (VC.exit ⟨(N, _, s), ⟨h.setC (c' := c.c1 S.fresh) hc rfl hwf, hp, (quanta_set (c' := c.c1 S.fresh) hc rfl).trans hqs, few_set hB hsB⟩, Nat.lt_succ_self N, Sub.cons rfl (Sub.cons rfl (Sub.cons rfl (Sub.nil _))), ?_⟩))
    refine (Imp.trans Imp.tl (Imp.of_eq ?_)).ent
    simp only [rfL, List.length_set, svs_same hc (show (c.c1 S.fresh).served = c.served from rfl)]; rfl
  have hlt : ¬ (c.c1 S.fresh).credit < opCost g'.op := hlt
  rw [if_neg hlt] at hp
  obtain ⟨hwf2, hq2⟩ := h.wf.c2 hc hq' hlt
  have hkeep := hok.tail (by rw [hx]; simp)
  have hcap1 : xs.length + 1 ≤ r.cap := by have := hok.room; rw [hx] at this; simpa using this
  refine VC.seq (VC.draw (ts 0 14 (.only 14 .nil)) (by kernel_rfl) (by decide +kernel) ?_)
  (repeat (first | refine VA.go (VA.nil ?_) | refine VA.go (VA.ld 0 rfl rfl rfl rfl rfl ?_) | refine VA.go (VA.ld 1 rfl rfl rfl rfl rfl ?_) | refine VA.go (VA.ld 2 rfl rfl rfl rfl rfl ?_)))
  refine VA.go (VA.light rfl (light_idx S.turn rfl rfl rfl rfl rfl rfl ht) ?_)
  refine VA.go (VA.ld 3 rfl rfl rfl rfl hrv ?_)
  refine VA.go (VA.light rfl (light_tail rfl rfl rfl rfl rfl hcap1) ?_)
  refine VA.go (VA.light rfl (light_idx S.turn rfl rfl rfl rfl rfl rfl ht) ?_)
  refine VA.go (VA.st 3 rfl rfl rfl rfl rfl (by show 0 + S.turn * 1 < _; simp; omega) (cs' := (s.rows.map RL.v).set S.turn (r.tail 29).v) (by show (s.rows.map RL.v).set (0 + S.turn * 1) _ = _; rw [Nat.zero_add, Nat.mul_one, ← tail_v hx had]; rfl) rfl (by (try refine Pd.st ?_); (repeat (first | exact Pd.nil | exact Pd.fnil | refine Pd.inner ?_ | refine Pd.skip (by decide +kernel) ?_ | refine Pd.fcons (RdL.one 0 rfl rfl) ?_ | refine Pd.fcons (RdL.one 1 rfl rfl) ?_ | refine Pd.fcons (RdL.one 2 rfl rfl) ?_ | refine Pd.fcons (RdL.many 0 rfl rfl) ?_ | refine Pd.fcons (RdL.many 1 rfl rfl) ?_ | refine Pd.fcons (RdL.many 2 rfl rfl) ?_ | refine Pd.cons (RdL.one 0 rfl rfl) ?_ | refine Pd.cons (RdL.one 1 rfl rfl) ?_ | refine Pd.cons (RdL.one 2 rfl rfl) ?_ | refine Pd.cons (RdL.many 0 rfl rfl) ?_ | refine Pd.cons (RdL.many 1 rfl rfl) ?_ | refine Pd.cons (RdL.many 2 rfl rfl) ?_))) ?_)
  (repeat (first | refine VA.go (VA.nil ?_) | refine VA.go (VA.ld 0 rfl rfl rfl rfl rfl ?_)))
  have hsv := svs_at hc
  have hxq : xs = [] ↔ q' = [] := by rw [← hxs]; simp
  have htx : (r.tail 29).xs = xs := by simp [RL.tail, hx]
  refine VC.seq (VC.draw (ts 0 29 (.only 29 (.take 30 (.only 31 .nil)))) (by kernel_rfl) (by decide +kernel) ?_)
  (repeat (first | refine VA.go (VA.nil ?_) | refine VA.go (VA.ld 0 rfl rfl rfl rfl rfl ?_) | refine VA.go (VA.ld 1 rfl rfl rfl rfl rfl ?_) | refine VA.go (VA.ld 2 rfl rfl rfl rfl rfl ?_)))
  refine VA.go (VA.light rfl (light_idx S.turn rfl rfl rfl rfl rfl rfl ht) ?_)
  refine VA.go (VA.ld 4 rfl rfl rfl rfl (crs_at (hself _)) ?_)
  (repeat (first | refine VA.go (VA.nil ?_) | refine VA.go (VA.ld 0 rfl rfl rfl rfl rfl ?_) | refine VA.go (VA.ld 1 rfl rfl rfl rfl rfl ?_) | refine VA.go (VA.ld 2 rfl rfl rfl rfl rfl ?_)))
  refine VA.go (VA.sub' rfl rfl rfl (by omega) (by omega) ?_)
  (repeat (first | refine VA.go (VA.nil ?_) | refine VA.go (VA.ld 0 rfl rfl rfl rfl rfl ?_) | refine VA.go (VA.ld 1 rfl rfl rfl rfl rfl ?_) | refine VA.go (VA.ld 2 rfl rfl rfl rfl rfl ?_)))
  refine VA.go (VA.light rfl (light_idx S.turn rfl rfl rfl rfl rfl rfl ht) ?_)
  refine VA.go (VA.ld 5 rfl rfl rfl rfl hsv ?_)
  (repeat (first | refine VA.go (VA.nil ?_) | refine VA.go (VA.ld 0 rfl rfl rfl rfl rfl ?_) | refine VA.go (VA.ld 1 rfl rfl rfl rfl rfl ?_) | refine VA.go (VA.ld 2 rfl rfl rfl rfl rfl ?_)))
  refine VA.go (VA.add rfl rfl rfl (by omega) (by omega) ?_)
  refine VA.go (VA.light rfl (light_idx S.turn rfl rfl rfl rfl rfl rfl ht) ?_)
  refine VA.go (VA.st 4 rfl rfl rfl rfl rfl (hcrl _ (by simp)) (crs_set2 (c := { c with credit := (c.c1 S.fresh).credit - opCost g'.op }) rfl) rfl (by (try refine Pd.st ?_); (repeat (first | exact Pd.nil | exact Pd.fnil | refine Pd.inner ?_ | refine Pd.skip (by decide +kernel) ?_ | refine Pd.fcons (RdL.one 0 rfl rfl) ?_ | refine Pd.fcons (RdL.one 1 rfl rfl) ?_ | refine Pd.fcons (RdL.one 2 rfl rfl) ?_ | refine Pd.fcons (RdL.many 0 rfl rfl) ?_ | refine Pd.fcons (RdL.many 1 rfl rfl) ?_ | refine Pd.fcons (RdL.many 2 rfl rfl) ?_ | refine Pd.cons (RdL.one 0 rfl rfl) ?_ | refine Pd.cons (RdL.one 1 rfl rfl) ?_ | refine Pd.cons (RdL.one 2 rfl rfl) ?_ | refine Pd.cons (RdL.many 0 rfl rfl) ?_ | refine Pd.cons (RdL.many 1 rfl rfl) ?_ | refine Pd.cons (RdL.many 2 rfl rfl) ?_))) ?_)
  refine VA.go (VA.light rfl (light_idx S.turn rfl rfl rfl rfl rfl rfl ht) ?_)
  refine VA.go (VA.st 5 rfl rfl rfl rfl rfl (by show 0 + S.turn * 1 < _; rw [svs_len]; omega) (svs_set (c := { c with served := c.served + opCost g'.op }) rfl) rfl (by (try refine Pd.st ?_); (repeat (first | exact Pd.nil | exact Pd.fnil | refine Pd.inner ?_ | refine Pd.skip (by decide +kernel) ?_ | refine Pd.fcons (RdL.one 0 rfl rfl) ?_ | refine Pd.fcons (RdL.one 1 rfl rfl) ?_ | refine Pd.fcons (RdL.one 2 rfl rfl) ?_ | refine Pd.fcons (RdL.many 0 rfl rfl) ?_ | refine Pd.fcons (RdL.many 1 rfl rfl) ?_ | refine Pd.fcons (RdL.many 2 rfl rfl) ?_ | refine Pd.cons (RdL.one 0 rfl rfl) ?_ | refine Pd.cons (RdL.one 1 rfl rfl) ?_ | refine Pd.cons (RdL.one 2 rfl rfl) ?_ | refine Pd.cons (RdL.many 0 rfl rfl) ?_ | refine Pd.cons (RdL.many 1 rfl rfl) ?_ | refine Pd.cons (RdL.many 2 rfl rfl) ?_))) ?_)
  (repeat (first | refine VA.go (VA.nil ?_) | refine VA.go (VA.ld 0 rfl rfl rfl rfl rfl ?_)))
  have hrv2 : ((s.rows.map RL.v).set S.turn (r.tail 29).v)[0 + S.turn * 1]? = some (r.tail 29).v := by rw [Nat.zero_add, Nat.mul_one]; exact List.getElem?_set_self (by simp; omega)
  have hserved : SchM.served2 (c.served + opCost g'.op) = c.served + opCost g'.op := by unfold SchM.served2; rw [if_neg (by omega)]
  have hrput : Imp (rfR s) (rfR { s with rows := s.rows.set S.turn (r.tail 29) }) := Imp.of_eq (by
    simp only [rfR, List.map_set]
    have : (s.rows.map fun r : FL => r.h 44)[S.turn]? = some ((r.tail 29).h 44) := (rf_h hr).trans rfl
    exact (list_set_same this).symm)
  (repeat (first | refine VC.seq ?_ | refine VC.region ?_ | refine VC.block ?_ | refine VC.label ?_ | refine VC.scope ?_ | refine VO.go (VO.nil ?_) | refine VO.go (VO.ld 0 rfl rfl rfl rfl ?_) | refine VO.go (VO.ld 1 rfl rfl rfl rfl ?_) | refine VO.go (VO.ld 2 rfl rfl rfl rfl ?_)))
  refine VO.go (VO.light (light_idx S.turn rfl rfl rfl rfl rfl rfl ht) ?_)
  refine VO.go (VO.ld 3 rfl rfl rfl hrv2 (VO.go (VO.nil ?_)))
  refine VC.condE rfl (fun hz => ?_) (fun hz => VC.skip ?_)
  · have hz : xs = [] := by rw [htx] at hz; exact List.eq_nil_of_length_eq_zero (by omega)
    have hz' := hxq.1 hz
    rw [if_pos hz'] at hp
    cases hp
    have hcr : (c.c2 S.fresh f q').credit = 0 := by show (if q' = [] then 0 else (c.c1 S.fresh).credit - opCost f.op) = 0; rw [if_pos hz']
    have hwf := h.wf.turned hwf2 hq2 (by rw [hcr]; omega)
    (repeat (first | refine VC.seq ?_ | refine VC.region ?_ | refine VC.block ?_ | refine VC.label ?_ | refine VC.scope ?_ | refine VO.go (VO.nil ?_) | refine VO.go (VO.ld 0 rfl rfl rfl rfl ?_) | refine VO.go (VO.ld 1 rfl rfl rfl rfl ?_) | refine VO.go (VO.ld 2 rfl rfl rfl rfl ?_)))
    refine VO.go (VO.light (light_idx S.turn rfl rfl rfl rfl rfl rfl ht) ?_)
    refine VO.go (VO.st 4 rfl rfl rfl rfl (hcrl _ (by simp)) (crs_set2 (c := c.c2 S.fresh f q') hcr.symm) rfl (VO.go (VO.nil ?_)))
    (repeat (first | refine VC.seq ?_ | refine VC.region ?_ | refine VC.block ?_ | refine VC.label ?_ | refine VC.scope ?_ | refine VO.go (VO.nil ?_) | refine VO.go (VO.ld 0 rfl rfl rfl rfl ?_)))
    refine VO.go (VO.callAt 2 (ψ := fun v H => v = .tuple #[] ∧ H = pt p (rfC s S.cls.length S.cap ((S.turn + 1) % S.cls.length : Nat) true) 91) rfl (fun Fr w _ _ _ => on_spec Fr w ht hn4) rfl (fun v L1 ⟨h1, h2⟩ => ⟨_, h2, h1, rfl⟩) ?_)
    rintro _ _ ⟨rfl, rfl⟩
    refine VO.go (VO.nil ?_)
    (repeat (first | refine VC.seq ?_ | refine VC.region ?_ | refine VC.block ?_ | refine VC.label ?_ | refine VC.scope ?_ | refine VO.go (VO.nil ?_) | refine VO.go (VO.ld 0 rfl rfl rfl rfl ?_)))
    refine VO.go (VO.ldA 0 (fmc (f, m)) rfl rfl rfl rfl (VO.go (VO.stA (vs := fmc (f, m)) (cs' := fmc (f, m)) 1 rfl rfl rfl rfl (Nat.le_refl _) rfl rfl rfl (VO.go (VO.nil ?_)))))
    refine VC.ret (Ret.cellTmp 2 3 rfl rfl rfl (RdL.many 1 rfl rfl) rfl (L' := [rfH p a ⟨S.cls.set S.turn (c.c2 S.fresh f q'), S.cap, (S.turn + 1) % S.cls.length, true⟩]) ?_ ?_)
    · refine (Imp.trans Imp.tl (Imp.trans Imp.tl (rf_shut _ (h.set hkeep (by rw [htx, hxs]; rfl) hwf) (Imp.trans (Imp.app (L := [_, _, _, _]) (M := [_, _, _, _]) Imp.refl hrput) (Imp.of_eq ?_))))).ent
      simp only [rfL, List.length_set, List.map_set, svs_congr (l := S.cls) (k := S.turn) (c1 := { c with served := c.served + opCost f.op }) (c := c.c2 S.fresh f q') hserved.symm]; rfl
    · unfold popRf; rw [hpm]; exact ⟨⟨m, rfl⟩, rfl⟩
  · have hz : xs ≠ [] := fun e => hz (by rw [htx, e]; rfl)
    have hz' : q' ≠ [] := fun e => hz (hxq.2 e)
    rw [if_neg hz'] at hp
    cases hp
    have hcr : (c.c2 S.fresh f q').credit = (c.c1 S.fresh).credit - opCost f.op := by show (if q' = [] then 0 else (c.c1 S.fresh).credit - opCost f.op) = _; rw [if_neg hz']
    have hwf := h.wf.stays hwf2 hq2
    (repeat (first | refine VC.seq ?_ | refine VC.region ?_ | refine VC.block ?_ | refine VC.label ?_ | refine VC.scope ?_ | refine VO.go (VO.nil ?_) | refine VO.go (VO.ld 0 rfl rfl rfl rfl ?_)))
    refine VO.go (VO.ldA 0 (fmc (f, m)) rfl rfl rfl rfl (VO.go (VO.stA (vs := fmc (f, m)) (cs' := fmc (f, m)) 1 rfl rfl rfl rfl (Nat.le_refl _) rfl rfl rfl (VO.go (VO.nil ?_)))))
    refine VC.ret (Ret.cellTmp 2 3 rfl rfl rfl (RdL.many 1 rfl rfl) rfl (L' := [rfH p a ⟨S.cls.set S.turn (c.c2 S.fresh f q'), S.cap, S.turn, false⟩]) ?_ ?_)
    · refine (Imp.trans Imp.tl (Imp.trans Imp.tl (rf_shut _ (h.set hkeep (by rw [htx, hxs]; rfl) hwf) (Imp.trans (Imp.app (L := [_, _, _, _]) (M := [_, _, _, _]) Imp.refl hrput) (Imp.of_eq ?_))))).ent
      simp only [rfL, List.length_set, List.map_set, svs_congr (l := S.cls) (k := S.turn) (c1 := { c with served := c.served + opCost f.op }) (c := c.c2 S.fresh f q') hserved.symm, crs_congr (l := S.cls) (k := S.turn) (c1 := { c with credit := (c.c1 S.fresh).credit - opCost f.op }) (c := c.c2 S.fresh f q') hcr.symm]; rfl
    · unfold popRf; rw [hpm]; exact ⟨⟨m, rfl⟩, rfl⟩
end Go.Proofs.Ytpgcjbddjghkdaa.Ref16
