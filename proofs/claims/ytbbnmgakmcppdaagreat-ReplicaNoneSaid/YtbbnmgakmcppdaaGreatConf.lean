/- Configurations: how they are brought within, and checked. Condition: a list of quanta that is read, and shorter than any memory. -/
import Derived.Test.YtbbnmgakmcppdaaGreatSchedN
import Derived.Test.YtbbnmgakmcppdaaGreatVgP
import Derived.Test.YtbbnmgakmcppdaaGreatVgR
namespace Go.Proofs.YtbbnmgakmcppdaaGreat.Conf
open Go Go.Proofs.YtbbnmgakmcppdaaGreat.Vg Go.Proofs.YtbbnmgakmcppdaaGreat.T Go.Proofs.YtbbnmgakmcppdaaGreat.Sched
set_option linter.unusedSimpArgs false
set_option linter.unusedVariables false
attribute [local irreducible] VO VC VA

/-! ### Lists of integers, and where they lie -/
def intCs (qs : List Int) : List Value := qs.map fun q => .int .i64 q
def intH (a : Option Addr) (cap : Nat) (qs : List Int) : HP := slH 3 1 a qs.length cap (intCs qs)
theorem intCs_len (qs : List Int) : (intCs qs).length = qs.length := by simp [intCs]
theorem intCs_one (qs : List Int) : (intCs qs).all Value.oneCell' = true := by
  rw [List.all_eq_true]
  intro v hv
  obtain ⟨q, _, rfl⟩ := List.mem_map.1 hv
  rfl
theorem cell_of_keep {w w' : World} {b off : Nat} {v : Value} (hb : w'.heap[b]? = w.heap[b]?) (h : w.cell? ⟨b, off, none⟩ = some v) : w'.cell? ⟨b, off, none⟩ = some v := by
  rw [← h]; unfold World.cell?; rw [hb]
theorem ints_of {X : Cx} {a : Option Addr} {qs : List Int} (h : IntsIn X.Fr X.w0 a qs) {Fr' : Nat → Prop} (hF : ∀ b, X.Fr b → Fr' b) {w : World} {L : List HP} (hw : St X L w) : IntsIn Fr' w a qs := ⟨fun hne => by
  obtain ⟨b, off, h1, h2, h3⟩ := h.at_ hne
  exact ⟨b, off, h1, hF b h2, fun i v hv => cell_of_keep (hw.keep.block b h2) (h3 i v hv)⟩⟩
theorem ints_sl {Fr : Nat → Prop} {w : World} {a : Option Addr} {c : Nat} {qs : List Int} (h : SatIn Fr [intH a c qs] w) : IntsIn Fr w a qs := by
  refine ⟨fun hne => ?_⟩
  obtain ⟨F, ⟨i, G, rfl, hs, rfl⟩, hF⟩ := h
  obtain ⟨hc, ⟨rfl, h0, _, _⟩ | ⟨b, rest, rfl, rfl, hn, hr, hh⟩⟩ := hs
  · exact absurd (List.eq_nil_of_length_eq_zero h0) hne
  · refine ⟨b, 0, rfl, hF b (by simp), fun i v hv => ?_⟩
    rw [Nat.zero_add, cell_of_row w b i (intCs qs ++ rest).toArray _ _ hh]
    have hi := (List.getElem?_eq_some_iff.1 hv).1
    have : (intCs qs ++ rest)[i]? = some (.int .i64 v) := by
      rw [List.getElem?_append_left (by simpa [intCs] using hi), intCs, List.getElem?_map, hv]; rfl
    simpa using this
theorem ints_take {Fr : Nat → Prop} {w : World} {a : Option Addr} {qs : List Int} (h : IntsIn Fr w a qs) (n : Nat) : IntsIn Fr w a (qs.take n) := by
  refine ⟨fun hne => ?_⟩
  obtain ⟨b, off, h1, h2, h3⟩ := h.at_ (fun e => hne (by rw [e]; simp))
  refine ⟨b, off, h1, h2, fun i v hv => h3 i v ?_⟩
  rw [List.getElem?_take] at hv
  split at hv
  · exact hv
  · cases hv
/-- Nothing is asked of an address. -/
def AdOk (_ : Option Addr) : Prop := True

/-! ### Configurations -/
structure ConfM where
  nodes : Int
  chain : Int
  clients : Int
  qs : List Int
  queue : Int
  window : Int
  reads : Int
  link : Int
  patience : Int
  timeout : Int
  budget : Int
  refill : Int
deriving DecidableEq
def ConfM.cells (c : ConfM) (a : Option Addr) (cap : Nat) : List Value := [.int .i64 c.nodes, .int .i64 c.chain, .int .i64 c.clients, .slice a c.qs.length cap, .int .i64 c.queue, .int .i64 c.window, .int .i64 c.reads, .int .i64 c.link, .int .i64 c.patience, .int .i64 c.timeout, .int .i64 c.budget, .int .i64 c.refill]
theorem ConfM.cells_len (c : ConfM) (a : Option Addr) (cap : Nat) : (c.cells a cap).length = 12 := rfl
def near (x lo hi : Int) : Int := if (if hi < x then hi else x) < lo then lo else if hi < x then hi else x
theorem near_in {x lo hi : Int} (h : lo ≤ hi) : lo ≤ near x lo hi ∧ near x lo hi ≤ hi := by
  unfold near; split <;> split <;> omega
theorem near_same {x lo hi : Int} (h1 : lo ≤ x) (h2 : x ≤ hi) : near x lo hi = x := by
  unfold near; rw [if_neg (by omega), if_neg (by omega)]
theorem near_alt (x lo hi : Int) : (if lo < (if hi < x then hi else x) then (if hi < x then hi else x) else lo) = near x lo hi := by
  unfold near; split <;> split <;> omega
def qNear (q : Int) : Int := near q 96 65536
def qFirst (qs : List Int) : List Int := if qs.take 4 = [] then [96] else qs.take 4
def qFit (qs : List Int) : List Int := (qFirst qs).map qNear
def fitM (c : ConfM) : ConfM := ⟨near c.nodes 1 6, near c.chain 1 (near c.nodes 1 6), near c.clients 1 6, qFit c.qs, near c.queue 1 16, near c.window 1 16, near c.reads 1 16, near c.link 4 64, near c.patience 4 64, near c.timeout 4 64, near c.budget 0 16, near c.refill 1 1099511627776⟩
theorem qFirst_len (qs : List Int) : 1 ≤ (qFirst qs).length ∧ (qFirst qs).length ≤ 4 := by
  unfold qFirst
  split
  · simp
  · rename_i h
    have := List.length_take_le 4 qs
    refine ⟨?_, this⟩
    cases hq : qs.take 4 with
    | nil => exact absurd hq h
    | cons _ _ => simp
theorem qFit_len (qs : List Int) : 1 ≤ (qFit qs).length ∧ (qFit qs).length ≤ 4 := by
  have := qFirst_len qs
  simpa [qFit] using this

theorem clamp_spec (Fr : Nat → Prop) (w : World) (x lo hi : Int) : Tri Tryz.prog 220 [.int .i64 x, .int .i64 lo, .int .i64 hi] Fr w [] (fun v L => v = .int .i64 (near x lo hi) ∧ L = []) := by
  refine Tri.of 12 Tryz.func220 rfl (by kernel_rfl) tabOk rfl rfl ?_
  (repeat (first|refine zS ?_|refine zR ?_|refine zB ?_|refine zL ?_|refine zC ?_|refine zG (zN ?_)|refine zG (zD 0 rfl rfl rfl rfl ?_)))
  exact VC.ret (Ret.int 6 rfl rfl rfl Ent.refl ⟨rfl, rfl⟩)

theorem bring_spec (Fr : Nat → Prop) (w : World) {b off t : Nat} {cs : List Value} {x : Int} (lo hi : Int) (hx : cs[off]? = some (.int .i64 x)) :
    Tri Tryz.prog 219 [.pointer (some ⟨b, off, none⟩), .int .i64 lo, .int .i64 hi] Fr w [pt b cs t] (fun v L => v = .tuple #[] ∧ L = [pt b (cs.set off (.int .i64 (near x lo hi))) t]) := by
  refine Tri.of 14 Tryz.func219 rfl (by kernel_rfl) tabOk rfl rfl ?_
  refine VC.region ?_
  refine VO.go (VO.ld 0 rfl rfl rfl hx ?_)
  refine VO.go (VO.callV (fun Fr w => clamp_spec Fr w x lo hi) rfl ?_)
  refine VO.go (VO.st 0 rfl rfl rfl rfl (List.getElem?_eq_some_iff.1 hx).1 rfl rfl (VO.go (VO.nil ?_)))
  exact Ret.void rfl Ent.refl ⟨rfl, rfl⟩

theorem clone_spec (Fr : Nat → Prop) (w : World) (a : Option Addr) (cap : Nat) (qs : List Int) (hq : IntsIn Fr w a qs) (hl : qs.length ≤ 1000) : Tri Tryz.prog 221 [.slice a qs.length cap] Fr w []
    (fun v L => ∃ a' cap', v = .slice a' qs.length cap' ∧ L = [intH a' cap' qs]) := by
  refine Tri.of 8 Tryz.func221 rfl (by kernel_rfl) tabOk rfl rfl ?_
  cases ha : a with
  | none =>
    have hnil : qs = [] := by
      cases hqs : qs with
      | nil => rfl
      | cons x xs =>
        obtain ⟨b, off, h1, _⟩ := hq.at_ (by rw [hqs]; simp)
        rw [ha] at h1; cases h1
    subst hnil
    (repeat (first|refine zS ?_|refine zR ?_|refine zB ?_|refine zL ?_|refine zC ?_|refine zG (zN ?_)|refine zG (zD 0 rfl rfl rfl rfl ?_)))
    refine VC.condT rfl ?_
    (repeat (first|refine zS ?_|refine zR ?_|refine zB ?_|refine zL ?_|refine zC ?_|refine zG (zN ?_)|refine zG (zD 0 rfl rfl rfl rfl ?_)))
    exact VC.ret (Ret.tmp 2 rfl rfl (Imp.slNil Imp.refl).ent ⟨none, 0, rfl, rfl⟩)
  | some ad =>
    (repeat (first|refine zS ?_|refine zR ?_|refine zB ?_|refine zL ?_|refine zC ?_|refine zG (zN ?_)|refine zG (zD 0 rfl rfl rfl rfl ?_)))
    refine VC.condF rfl (VC.skip ?_)
    (repeat (first|refine zS ?_|refine zR ?_|refine zB ?_|refine zL ?_|refine zC ?_|refine zG (zN ?_)|refine zG (zD 0 rfl rfl rfl rfl ?_)))
    refine VO.go (VO.buildSlice (n := 0) (pv := []) [] rfl rfl rfl rfl (by decide) rfl fun nb => ?_)
    refine VO.ent (L' := [slH 3 1 (some ⟨nb, 0, none⟩) 0 0 []]) (Imp.sl (cs := []) (rest := []) rfl (Nat.le_refl _) rfl Imp.refl).ent ?_
    refine VO.go (VO.append (m := qs.length) (news := intCs qs) 0 rfl rfl rfl rfl rfl rfl rfl ?_ (intCs_one qs) (by show (0 + qs.length) * 8 ≤ _; omega) (by omega) fun a' c' hc' => VO.go (VO.nil ?_))
    · by_cases hne : qs = []
      · subst hne
        exact ⟨rfl, .inl ⟨some ad, cap, rfl, rfl⟩⟩
      · obtain ⟨b, off, h1, h2, h3⟩ := hq.at_ hne
        rw [ha] at h1
        cases h1
        refine ⟨by simp [intCs], .inr ⟨b, off, cap, rfl, fun w' hw' j v hv => ?_⟩⟩
        rw [intCs, List.getElem?_map] at hv
        cases hj : qs[j]? with
        | none => rw [hj] at hv; cases hv
        | some x =>
          rw [hj] at hv
          obtain rfl := Option.some.inj hv
          exact cell_of_keep (hw'.keep.block b h2) (h3 j x hj)
    · exact VC.ret (Ret.tmp 2 rfl rfl (Imp.of_eq (by rw [Nat.zero_add]; rfl)).ent ⟨a', c', by rw [Nat.zero_add], rfl⟩)

theorem equal_spec (Fr : Nat → Prop) (w : World) (a b : Option Addr) (ca cb : Nat) (qs ps : List Int) (hq : IntsIn Fr w a qs) (hp : IntsIn Fr w b ps) (hl : ps.length ≤ 1000) : Tri Tryz.prog 189 [.slice a qs.length ca, .slice b ps.length cb] Fr w []
    (fun v L => v = .bool (decide (qs = ps)) ∧ L = []) := by
  refine Tri.of 26 Tryz.func189 rfl (by kernel_rfl) tabOk rfl rfl ?_
  (repeat (first|refine zS ?_|refine zR ?_|refine zB ?_|refine zL ?_|refine zC ?_|refine zG (zN ?_)|refine zG (zD 0 rfl rfl rfl rfl ?_)))
  refine VC.condNE rfl (fun h1 => ?_) (fun h1 => VC.skip ?_)
  · (repeat (first|refine zS ?_|refine zR ?_|refine zB ?_|refine zL ?_|refine zC ?_|refine zG (zN ?_)|refine zG (zD 0 rfl rfl rfl rfl ?_)))
    exact VC.ret (Ret.bool 4 rfl rfl (by symm; apply decide_eq_false; intro e; exact h1 (by rw [e])) Ent.refl ⟨rfl, rfl⟩)
  have h1 : qs.length = ps.length := by omega
  (repeat (first|refine zS ?_|refine zR ?_|refine zB ?_|refine zL ?_|refine zC ?_|refine zG (zN ?_)|refine zG (zD 0 rfl rfl rfl rfl ?_)))
  refine VC.loop (σ := Nat) (fun i => [(0, .slice a qs.length ca), (1, .slice b ps.length cb), (12, .int .i64 qs.length), (13, .int .i64 i)]) (fun _ => []) (fun i => i ≤ qs.length ∧ ∀ j, j < i → qs[j]? = ps[j]?) (fun i => qs.length - i) 0 ⟨Nat.zero_le _, fun j hj => by omega⟩ (Sub.cons rfl (Sub.cons rfl (Sub.cons rfl (Sub.cons rfl (Sub.nil _))))) Ent.refl ?_
  rintro i ⟨hi, hall⟩
  (repeat (first|refine zS ?_|refine zR ?_|refine zB ?_|refine zL ?_|refine zC ?_|refine zG (zN ?_)|refine zG (zD 0 rfl rfl rfl rfl ?_)))
  refine VC.condP rfl (fun h2 => VC.skip ?_) (fun h2 => VC.exit ?_)
  · have hi1 : i < qs.length := by omega
    have hi2 : i < ps.length := by omega
    obtain ⟨qb, qo, rfl, hFq, hcq⟩ := hq.at_ (fun e => by rw [e] at hi1; simp at hi1)
    obtain ⟨pb, po, rfl, hFp, hcp⟩ := hp.at_ (fun e => by rw [e] at hi2; simp at hi2)
    have e1 := List.getElem?_eq_getElem hi1
    have e2 := List.getElem?_eq_getElem hi2
    generalize qs[i] = x at e1
    generalize ps[i] = y at e2
    refine VC.seq (VC.block ?_)
    refine VC.seq (VC.region (VO.go (VO.nil ?_)))
    refine VC.seq (VC.draw (ts 0 9 .nil) (by kernel_rfl) (by decide +kernel) ?_)
    (repeat (first|refine yG (yN ?_)|refine yG (yD 0 rfl rfl rfl rfl rfl ?_)))
    refine VA.go (VA.light rfl (light_idx i rfl rfl rfl rfl rfl rfl hi1) ?_)
    refine VA.go (VA.load rfl rfl rfl (RdL.rd (v := .int .i64 x) hFq (by show w.cell? ⟨qb, qo + i * 1, none⟩ = _; rw [Nat.mul_one]; exact hcq i x e1)) ?_)
    (repeat (first|refine yG (yN ?_)|refine yG (yD 0 rfl rfl rfl rfl rfl ?_)))
    refine VA.go (VA.light rfl (light_idx i rfl rfl rfl rfl rfl rfl hi2) ?_)
    refine VA.go (VA.load rfl rfl rfl (RdL.rd (v := .int .i64 y) hFp (by show w.cell? ⟨pb, po + i * 1, none⟩ = _; rw [Nat.mul_one]; exact hcp i y e2)) ?_)
    (repeat (first|refine yG (yN ?_)|refine yG (yD 0 rfl rfl rfl rfl rfl ?_)))
    refine VC.condNE rfl (fun h3 => ?_) (fun h3 => VC.skip ?_)
    · (repeat (first|refine zS ?_|refine zR ?_|refine zB ?_|refine zL ?_|refine zC ?_|refine zG (zN ?_)|refine zG (zD 0 rfl rfl rfl rfl ?_)))
      exact VC.ret (Ret.bool 4 rfl rfl (by symm; apply decide_eq_false; intro e; rw [e, e2] at e1; exact h3 (Option.some.inj e1).symm) Ent.refl ⟨rfl, rfl⟩)
    (repeat (first|refine zS ?_|refine zR ?_|refine zB ?_|refine zL ?_|refine zC ?_|refine zG (zN ?_)|refine zG (zD 0 rfl rfl rfl rfl ?_)))
    refine VO.go (VO.add rfl rfl (by omega) (by omega) ?_)
    (repeat (first|refine zS ?_|refine zR ?_|refine zB ?_|refine zL ?_|refine zC ?_|refine zG (zN ?_)|refine zG (zD 0 rfl rfl rfl rfl ?_)))
    refine ⟨i + 1, ⟨hi1, fun j hj => ?_⟩, by dsimp only; omega, Sub.cons rfl (Sub.cons rfl (Sub.cons rfl (Sub.cons rfl (Sub.nil _)))), Ent.refl⟩
    by_cases hji : j = i
    · subst hji; rw [e1, e2, h3]
    · exact hall j (by omega)
  · have hi1 : i = qs.length := by omega
    subst hi1
    (repeat (first|refine zS ?_|refine zR ?_|refine zB ?_|refine zL ?_|refine zC ?_|refine zG (zN ?_)|refine zG (zD 0 rfl rfl rfl rfl ?_)))
    refine VC.ret (Ret.bool 4 rfl rfl (by
      symm; apply decide_eq_true
      apply List.ext_getElem?
      intro j
      by_cases hj : j < qs.length
      · exact hall j hj
      · rw [List.getElem?_eq_none (by omega), List.getElem?_eq_none (by omega)]) Ent.refl ⟨rfl, rfl⟩)

/-! ### Fit -/
def mixQ (qs : List Int) (i : Nat) : List Int := (qs.take i).map qNear ++ qs.drop i
theorem mixQ_len (qs : List Int) (i : Nat) : (mixQ qs i).length = qs.length := by simp [mixQ]; omega
theorem mixQ_at {qs : List Int} {i : Nat} {x : Int} (h : qs[i]? = some x) : (mixQ qs i)[i]? = some x := by
  have hi := (List.getElem?_eq_some_iff.1 h).1
  rw [mixQ, List.getElem?_append_right (by simp; omega)]
  simp only [List.length_map, List.length_take, List.getElem?_drop]
  rw [← h]; congr 1; omega
theorem mixQ_set {qs : List Int} {i : Nat} {x : Int} (h : qs[i]? = some x) : (mixQ qs i).set i (qNear x) = mixQ qs (i + 1) := by
  have hi := (List.getElem?_eq_some_iff.1 h).1
  rw [mixQ, mixQ, List.take_add_one, h, List.set_append_right _ _ (by simp; omega)]
  have h2 : qs.drop i = x :: qs.drop (i + 1) := by
    rw [List.drop_eq_getElem_cons hi, (List.getElem?_eq_some_iff.1 h).2]
  rw [h2]
  have h3 : i - ((qs.take i).map qNear).length = 0 := by simp; omega
  rw [h3]; simp

set_option maxRecDepth 100000 in
theorem fit_spec (Fr : Nat → Prop) (w : World) (c : ConfM) (a : Option Addr) (cap : Nat) (hq : IntsIn Fr w a c.qs) (ha : AdOk a) (hcap : c.qs.length ≤ cap) : Tri Tryz.prog 188 [.agg (c.cells a cap).toArray] Fr w []
    (fun v L => ∃ a' cap', AdOk a' ∧ (fitM c).qs.length ≤ cap' ∧ v = .agg ((fitM c).cells a' cap').toArray ∧ L = [intH a' cap' (fitM c).qs]) := by
  refine Tri.of 69 Tryz.func188 rfl (by kernel_rfl) tabOk rfl rfl ?_
  refine VC.seq (VC.region (VO.go (VO.boxA (vs := c.cells a cap) rfl fun x => VO.go (VO.alloc rfl fun r => VO.go (VO.nil ?_)))))
  obtain ⟨c0, c1, c2, qs, c4, c5, c6, c7, c8, c9, c10, c11⟩ := c
  dsimp only at hq hcap
  refine VC.seq (VC.region (VO.go (VO.nil ?_)))
  refine VC.seq (VC.region ?_)
  refine VO.go (VO.callAtT 1 (ψ := fun v H => H = pt x [.int .i64 (near c0 1 6), .int .i64 c1, .int .i64 c2, .slice a qs.length cap, .int .i64 c4, .int .i64 c5, .int .i64 c6, .int .i64 c7, .int .i64 c8, .int .i64 c9, .int .i64 c10, .int .i64 c11] 24) rfl rfl (fun Fr w _ _ _ => bring_spec Fr w _ _ rfl) rfl (fun v L1 h => ⟨_, h.2, rfl⟩) ?_)
  rintro _ _ rfl
  refine VO.go (VO.nil ?_)
  refine VC.seq (VC.region ?_)
  refine VO.go (VO.ld 1 rfl rfl rfl rfl ?_)
  refine VO.go (VO.callAtT 1 (ψ := fun v H => H = pt x [.int .i64 (near c0 1 6), .int .i64 (near c1 1 (near c0 1 6)), .int .i64 c2, .slice a qs.length cap, .int .i64 c4, .int .i64 c5, .int .i64 c6, .int .i64 c7, .int .i64 c8, .int .i64 c9, .int .i64 c10, .int .i64 c11] 24) rfl rfl (fun Fr w _ _ _ => bring_spec Fr w _ _ rfl) rfl (fun v L1 h => ⟨_, h.2, rfl⟩) ?_)
  rintro _ _ rfl
  refine VO.go (VO.nil ?_)
  refine VC.seq (VC.region ?_)
  refine VO.go (VO.callAtT 1 (ψ := fun v H => H = pt x [.int .i64 (near c0 1 6), .int .i64 (near c1 1 (near c0 1 6)), .int .i64 (near c2 1 6), .slice a qs.length cap, .int .i64 c4, .int .i64 c5, .int .i64 c6, .int .i64 c7, .int .i64 c8, .int .i64 c9, .int .i64 c10, .int .i64 c11] 24) rfl rfl (fun Fr w _ _ _ => bring_spec Fr w _ _ rfl) rfl (fun v L1 h => ⟨_, h.2, rfl⟩) ?_)
  rintro _ _ rfl
  refine VO.go (VO.nil ?_)
  have ht4 := List.length_take_le 4 qs
  refine VC.seq (VC.region (VO.go (VO.ld 1 rfl rfl rfl rfl (VO.go (VO.ld 1 rfl rfl rfl rfl ?_)))))
  refine VO.go (VO.light (light_head (qs.take 4).length rfl rfl rfl rfl rfl (by rw [List.length_take]; split <;> omega) (by rw [List.length_take]; omega)) ?_)
  refine VO.go (VO.call (Lc := []) (fun Fr w hF hs _ => clone_spec Fr w a cap (qs.take 4) (ints_take (ints_of hq hF hs) 4) (by omega)) rfl rfl ?_)
  rintro _ _ ⟨a1, cap1, rfl, rfl⟩
  refine VO.go (VO.st 2 rfl rfl rfl rfl (by show 3 < 12; omega) rfl rfl (VO.go (VO.nil ?_)))
  have hf1 := qFirst_len qs
  refine VC.meet (σ := Nat × Nat × List Value) (fun _ => [(1, .pointer (some ⟨x, 0, none⟩)), (2, .pointer (some ⟨r, 0, none⟩)), (3, .func (.func 219) #[] #[])])
    (fun y => [pt y.1 (intCs (qFirst qs) ++ y.2.2) 3, pt r T.t24.zs 24, pt x [.int .i64 (near c0 1 6), .int .i64 (near c1 1 (near c0 1 6)), .int .i64 (near c2 1 6), .slice (some ⟨y.1, 0, none⟩) (qFirst qs).length y.2.1, .int .i64 c4, .int .i64 c5, .int .i64 c6, .int .i64 c7, .int .i64 c8, .int .i64 c9, .int .i64 c10, .int .i64 c11] 24]) (fun y => (qFirst qs).length ≤ y.2.1 ∧ (intCs (qFirst qs) ++ y.2.2).length = y.2.1) ?_ ?_
  · refine VC.seq (VC.region (VO.go (VO.ld 2 rfl rfl rfl rfl (VO.go (VO.nil ?_)))))
    refine VC.condE rfl (fun hz => ?_) (fun hz => ?_)
    · have hz : qs.take 4 = [] := List.eq_nil_of_length_eq_zero (by omega)
      have hqf : qFirst qs = [96] := by unfold qFirst; rw [if_pos hz]
      refine VC.region (VO.go (VO.buildSlice (n := 1) (pv := [(0, .int .i64 96)]) [.int .i64 96] rfl rfl rfl rfl (by decide) rfl fun nb => ?_))
      refine VO.go (VO.st 3 rfl rfl rfl rfl (by show 3 < 12; omega) rfl rfl (VO.go (VO.nil ?_)))
      refine ⟨(nb, 1, []), ⟨by rw [hqf]; exact Nat.le_refl 1, by rw [hqf]; rfl⟩, Sub.cons rfl (Sub.cons rfl (Sub.cons rfl (Sub.nil _))), ?_⟩
      rw [hqf]
      exact (Imp.cons Imp.tl).ent
    · have hz : ¬ qs.take 4 = [] := fun e => hz (by rw [e]; rfl)
      have hqf : qFirst qs = qs.take 4 := by unfold qFirst; rw [if_neg hz]
      refine VC.opn 0 rfl (HOpn.sl 3 1 a1 (qs.take 4).length cap1 (intCs (qs.take 4))) fun y hy => VC.skip ?_
      obtain ⟨h1, h2, h3⟩ := hy
      cases y with
      | none =>
        obtain ⟨_, h5, _⟩ := h3
        exact absurd (List.eq_nil_of_length_eq_zero h5) hz
      | some y =>
        obtain ⟨b1, rest⟩ := y
        obtain ⟨rfl, h4⟩ := h3
        refine ⟨(b1, cap1, rest), ⟨by rw [hqf]; exact h2, by rw [hqf]; simpa using h4⟩, Sub.cons rfl (Sub.cons rfl (Sub.cons rfl (Sub.nil _))), ?_⟩
        rw [hqf]
        exact Ent.refl
  rintro ⟨qb, qcap, rest⟩ ⟨hqc, hrest⟩
  dsimp only at hqc hrest ⊢
  (repeat (first|refine zS ?_|refine zR ?_|refine zB ?_|refine zL ?_|refine zC ?_|refine zG (zN ?_)|refine zG (zD 0 rfl rfl rfl rfl ?_)|refine zG (zD 1 rfl rfl rfl rfl ?_)|refine zG (zD 2 rfl rfl rfl rfl ?_)))
  refine VC.loop (σ := Nat) (fun i => [(1, .pointer (some ⟨x, 0, none⟩)), (2, .pointer (some ⟨r, 0, none⟩)), (3, .func (.func 219) #[] #[]), (33, .int .i64 (qFirst qs).length), (34, .int .i64 i)])
    (fun i => [pt qb (intCs (mixQ (qFirst qs) i) ++ rest) 3, pt r T.t24.zs 24, pt x [.int .i64 (near c0 1 6), .int .i64 (near c1 1 (near c0 1 6)), .int .i64 (near c2 1 6), .slice (some ⟨qb, 0, none⟩) (qFirst qs).length qcap, .int .i64 c4, .int .i64 c5, .int .i64 c6, .int .i64 c7, .int .i64 c8, .int .i64 c9, .int .i64 c10, .int .i64 c11] 24]) (fun i => i ≤ (qFirst qs).length) (fun i => 4 - i) 0 (Nat.zero_le _) (Sub.cons rfl (Sub.cons rfl (Sub.cons rfl (Sub.cons rfl (Sub.cons rfl (Sub.nil _)))))) Ent.refl ?_
  intro i hi
  (repeat (first|refine zS ?_|refine zR ?_|refine zB ?_|refine zL ?_|refine zC ?_|refine zG (zN ?_)|refine zG (zD 0 rfl rfl rfl rfl ?_)))
  refine VC.condP rfl (fun h1 => VC.skip ?_) (fun h1 => VC.exit ?_)
  · have hi2 : i < (qFirst qs).length := by omega
    have hy := List.getElem?_eq_getElem hi2
    generalize (qFirst qs)[i] = y at hy
    have hc : (intCs (mixQ (qFirst qs) i) ++ rest)[0 + i * 1]? = some (.int .i64 y) := by
      rw [Nat.zero_add, Nat.mul_one, List.getElem?_append_left (by rw [intCs_len, mixQ_len]; exact hi2), intCs, List.getElem?_map, mixQ_at hy]; rfl
    have hset : (intCs (mixQ (qFirst qs) i) ++ rest).set (0 + i * 1) (.int .i64 (near y 96 65536)) = intCs (mixQ (qFirst qs) (i + 1)) ++ rest := by
      rw [Nat.zero_add, Nat.mul_one, List.set_append_left _ _ (by rw [intCs_len, mixQ_len]; exact hi2), intCs, ← mixQ_set hy, intCs, List.map_set]; rfl
    (repeat (first|refine zS ?_|refine zR ?_|refine zB ?_|refine zL ?_|refine zC ?_|refine zG (zN ?_)|refine zG (zD 0 rfl rfl rfl rfl ?_)|refine zG (zD 1 rfl rfl rfl rfl ?_)|refine zG (zD 2 rfl rfl rfl rfl ?_)))
    refine VO.go (VO.light (light_idx i rfl rfl rfl rfl rfl rfl hi2) ?_)
    refine VO.go (VO.callAtT 0 (ψ := fun v H => H = pt qb (intCs (mixQ (qFirst qs) (i + 1)) ++ rest) 3) rfl rfl (fun Fr w _ _ _ => bring_spec Fr w _ _ hc) rfl (fun v L1 h => ⟨_, h.2, by rw [hset]⟩) ?_)
    rintro _ _ rfl
    refine VO.go (VO.nil ?_)
    (repeat (first|refine zS ?_|refine zR ?_|refine zB ?_|refine zL ?_|refine zC ?_|refine zG (zN ?_)|refine zG (zD 0 rfl rfl rfl rfl ?_)))
    refine VO.go (VO.add rfl rfl (by omega) (by omega) ?_)
    (repeat (first|refine zS ?_|refine zR ?_|refine zB ?_|refine zL ?_|refine zC ?_|refine zG (zN ?_)|refine zG (zD 0 rfl rfl rfl rfl ?_)))
    exact ⟨i + 1, hi2, by dsimp only; omega, Sub.cons rfl (Sub.cons rfl (Sub.cons rfl (Sub.cons rfl (Sub.cons rfl (Sub.nil _))))), Ent.refl⟩
  have hi2 : i = (qFirst qs).length := by omega
  subst hi2
  refine VC.seq (VC.region ?_)
  refine VO.go (VO.callAtT 2 (ψ := fun v H => H = pt x [.int .i64 (near c0 1 6), .int .i64 (near c1 1 (near c0 1 6)), .int .i64 (near c2 1 6), .slice (some ⟨qb, 0, none⟩) (qFirst qs).length qcap, .int .i64 (near c4 1 16), .int .i64 c5, .int .i64 c6, .int .i64 c7, .int .i64 c8, .int .i64 c9, .int .i64 c10, .int .i64 c11] 24) rfl rfl (fun Fr w _ _ _ => bring_spec Fr w _ _ rfl) rfl (fun v L1 h => ⟨_, h.2, rfl⟩) ?_)
  rintro _ _ rfl
  refine VO.go (VO.nil ?_)
  refine VC.seq (VC.region ?_)
  refine VO.go (VO.callAtT 2 (ψ := fun v H => H = pt x [.int .i64 (near c0 1 6), .int .i64 (near c1 1 (near c0 1 6)), .int .i64 (near c2 1 6), .slice (some ⟨qb, 0, none⟩) (qFirst qs).length qcap, .int .i64 (near c4 1 16), .int .i64 (near c5 1 16), .int .i64 c6, .int .i64 c7, .int .i64 c8, .int .i64 c9, .int .i64 c10, .int .i64 c11] 24) rfl rfl (fun Fr w _ _ _ => bring_spec Fr w _ _ rfl) rfl (fun v L1 h => ⟨_, h.2, rfl⟩) ?_)
  rintro _ _ rfl
  refine VO.go (VO.nil ?_)
  refine VC.seq (VC.region ?_)
  refine VO.go (VO.callAtT 2 (ψ := fun v H => H = pt x [.int .i64 (near c0 1 6), .int .i64 (near c1 1 (near c0 1 6)), .int .i64 (near c2 1 6), .slice (some ⟨qb, 0, none⟩) (qFirst qs).length qcap, .int .i64 (near c4 1 16), .int .i64 (near c5 1 16), .int .i64 (near c6 1 16), .int .i64 c7, .int .i64 c8, .int .i64 c9, .int .i64 c10, .int .i64 c11] 24) rfl rfl (fun Fr w _ _ _ => bring_spec Fr w _ _ rfl) rfl (fun v L1 h => ⟨_, h.2, rfl⟩) ?_)
  rintro _ _ rfl
  refine VO.go (VO.nil ?_)
  refine VC.seq (VC.region ?_)
  refine VO.go (VO.callAtT 2 (ψ := fun v H => H = pt x [.int .i64 (near c0 1 6), .int .i64 (near c1 1 (near c0 1 6)), .int .i64 (near c2 1 6), .slice (some ⟨qb, 0, none⟩) (qFirst qs).length qcap, .int .i64 (near c4 1 16), .int .i64 (near c5 1 16), .int .i64 (near c6 1 16), .int .i64 (near c7 4 64), .int .i64 c8, .int .i64 c9, .int .i64 c10, .int .i64 c11] 24) rfl rfl (fun Fr w _ _ _ => bring_spec Fr w _ _ rfl) rfl (fun v L1 h => ⟨_, h.2, rfl⟩) ?_)
  rintro _ _ rfl
  refine VO.go (VO.nil ?_)
  refine VC.seq (VC.region ?_)
  refine VO.go (VO.callAtT 2 (ψ := fun v H => H = pt x [.int .i64 (near c0 1 6), .int .i64 (near c1 1 (near c0 1 6)), .int .i64 (near c2 1 6), .slice (some ⟨qb, 0, none⟩) (qFirst qs).length qcap, .int .i64 (near c4 1 16), .int .i64 (near c5 1 16), .int .i64 (near c6 1 16), .int .i64 (near c7 4 64), .int .i64 (near c8 4 64), .int .i64 c9, .int .i64 c10, .int .i64 c11] 24) rfl rfl (fun Fr w _ _ _ => bring_spec Fr w _ _ rfl) rfl (fun v L1 h => ⟨_, h.2, rfl⟩) ?_)
  rintro _ _ rfl
  refine VO.go (VO.nil ?_)
  refine VC.seq (VC.region ?_)
  refine VO.go (VO.callAtT 2 (ψ := fun v H => H = pt x [.int .i64 (near c0 1 6), .int .i64 (near c1 1 (near c0 1 6)), .int .i64 (near c2 1 6), .slice (some ⟨qb, 0, none⟩) (qFirst qs).length qcap, .int .i64 (near c4 1 16), .int .i64 (near c5 1 16), .int .i64 (near c6 1 16), .int .i64 (near c7 4 64), .int .i64 (near c8 4 64), .int .i64 (near c9 4 64), .int .i64 c10, .int .i64 c11] 24) rfl rfl (fun Fr w _ _ _ => bring_spec Fr w _ _ rfl) rfl (fun v L1 h => ⟨_, h.2, rfl⟩) ?_)
  rintro _ _ rfl
  refine VO.go (VO.nil ?_)
  refine VC.seq (VC.region ?_)
  refine VO.go (VO.callAtT 2 (ψ := fun v H => H = pt x [.int .i64 (near c0 1 6), .int .i64 (near c1 1 (near c0 1 6)), .int .i64 (near c2 1 6), .slice (some ⟨qb, 0, none⟩) (qFirst qs).length qcap, .int .i64 (near c4 1 16), .int .i64 (near c5 1 16), .int .i64 (near c6 1 16), .int .i64 (near c7 4 64), .int .i64 (near c8 4 64), .int .i64 (near c9 4 64), .int .i64 (near c10 0 16), .int .i64 c11] 24) rfl rfl (fun Fr w _ _ _ => bring_spec Fr w _ _ rfl) rfl (fun v L1 h => ⟨_, h.2, rfl⟩) ?_)
  rintro _ _ rfl
  refine VO.go (VO.nil ?_)
  refine VC.seq (VC.region ?_)
  refine VO.go (VO.callAtT 2 (ψ := fun v H => H = pt x [.int .i64 (near c0 1 6), .int .i64 (near c1 1 (near c0 1 6)), .int .i64 (near c2 1 6), .slice (some ⟨qb, 0, none⟩) (qFirst qs).length qcap, .int .i64 (near c4 1 16), .int .i64 (near c5 1 16), .int .i64 (near c6 1 16), .int .i64 (near c7 4 64), .int .i64 (near c8 4 64), .int .i64 (near c9 4 64), .int .i64 (near c10 0 16), .int .i64 (near c11 1 1099511627776)] 24) rfl rfl (fun Fr w _ _ _ => bring_spec Fr w _ _ rfl) rfl (fun v L1 h => ⟨_, h.2, rfl⟩) ?_)
  rintro _ _ rfl
  refine VO.go (VO.nil ?_)
  have hmix : mixQ (qFirst qs) (qFirst qs).length = qFit qs := by simp [mixQ, qFit]
  have hql : (qFirst qs).length = (qFit qs).length := by simp [qFit]
  rw [hmix]
  refine VC.seq (VC.region (VO.go (VO.ldA 2 [.int .i64 (near c0 1 6), .int .i64 (near c1 1 (near c0 1 6)), .int .i64 (near c2 1 6), .slice (some ⟨qb, 0, none⟩) (qFirst qs).length qcap, .int .i64 (near c4 1 16), .int .i64 (near c5 1 16), .int .i64 (near c6 1 16), .int .i64 (near c7 4 64), .int .i64 (near c8 4 64), .int .i64 (near c9 4 64), .int .i64 (near c10 0 16), .int .i64 (near c11 1 1099511627776)] rfl rfl rfl rfl ?_)))
  refine VO.go (VO.stA (vs := [.int .i64 (near c0 1 6), .int .i64 (near c1 1 (near c0 1 6)), .int .i64 (near c2 1 6), .slice (some ⟨qb, 0, none⟩) (qFirst qs).length qcap, .int .i64 (near c4 1 16), .int .i64 (near c5 1 16), .int .i64 (near c6 1 16), .int .i64 (near c7 4 64), .int .i64 (near c8 4 64), .int .i64 (near c9 4 64), .int .i64 (near c10 0 16), .int .i64 (near c11 1 1099511627776)]) (cs' := [.int .i64 (near c0 1 6), .int .i64 (near c1 1 (near c0 1 6)), .int .i64 (near c2 1 6), .slice (some ⟨qb, 0, none⟩) (qFirst qs).length qcap, .int .i64 (near c4 1 16), .int .i64 (near c5 1 16), .int .i64 (near c6 1 16), .int .i64 (near c7 4 64), .int .i64 (near c8 4 64), .int .i64 (near c9 4 64), .int .i64 (near c10 0 16), .int .i64 (near c11 1 1099511627776)]) 1 rfl rfl rfl rfl (Nat.le_refl _) rfl rfl rfl (VO.go (VO.nil ?_)))
  refine VC.ret (Ret.cell 2 rfl rfl rfl (RdL.many 1 rfl rfl) (L' := [intH (some ⟨qb, 0, none⟩) qcap (qFit qs)]) ?_ ⟨some ⟨qb, 0, none⟩, qcap, trivial, by show (qFit qs).length ≤ _; omega, ?_, rfl⟩)
  · refine (Imp.sl (b := qb) (rest := rest) (by rw [intCs_len, Nat.mul_one]) (by omega) (by rw [← hrest, Nat.mul_one, List.length_append, List.length_append, intCs_len, intCs_len, hql]) (Imp.app (L := [_]) (M := [_]) Imp.refl Imp.nil)).ent
  · rw [hql]; rfl
end Go.Proofs.YtbbnmgakmcppdaaGreat.Conf
