/- The reference for meters: frames counted anew, numbers as texts. No condition but that there are few frames. -/
import Derived.Test.YtoinocihlfmnnaaDoorMetT
import Derived.Laws.Strings2
namespace Go.Proofs.YtoinocihlfmnnaaDoor.Met
open Go Go.Proofs.YtoinocihlfmnnaaDoor.Vg Go.Proofs.YtoinocihlfmnnaaDoor.T Go.Proofs.YtoinocihlfmnnaaDoor.Api Go.Proofs.YtoinocihlfmnnaaDoor.Cnt Go.Proofs.YtoinocihlfmnnaaDoor.LibC
set_option linter.unusedSimpArgs false
set_option linter.unusedVariables false
attribute [local irreducible] VO VC VA

/-! ### Frames that lie where they stay -/
theorem Sub.bool {e' e : Env} {t : Nat} {a b : Bool} (h : Vg.look e t = some (Value.bool a)) (hab : a = b) (hs : Sub e' e) : Sub ((t, .bool b) :: e') e := by
  subst hab; exact Sub.cons h hs
theorem beq_dec (a b : Int) : (a == b) = decide (a = b) := by by_cases h : a = b <;> simp [h]
structure FsIn (Fr : Nat → Prop) (w : World) (a : Option Addr) (l : List FG) : Prop where
  at_ : l ≠ [] → ∃ b off, a = some ⟨b, off, none⟩ ∧ Fr b ∧ ∀ i x, l[i]? = some x → w.rangeAt b (off + i * 29) (fgc x)
theorem FsIn.keep {Fr Fr' : Nat → Prop} {w w' : World} {a : Option Addr} {l : List FG} (h : FsIn Fr w a l) (hF : ∀ b, Fr b → Fr' b) (hk : Keep Fr w w') : FsIn Fr' w' a l := ⟨fun hne => by
  obtain ⟨b, off, h1, h2, h3⟩ := h.at_ hne
  refine ⟨b, off, h1, hF b h2, fun i x hx j v hv => ?_⟩
  have := h3 i x hx j v hv
  unfold World.cell? at this ⊢
  rw [hk.block b h2]; exact this⟩
theorem FsIn.of {X : Cx} {a : Option Addr} {l : List FG} (h : FsIn X.Fr X.w0 a l) {Fr' : Nat → Prop} (hF : ∀ b, X.Fr b → Fr' b) {w : World} {L : List HP} (hw : St X L w) : FsIn Fr' w a l := h.keep hF hw.keep
/-- One of them is read. -/
theorem FsIn.rd {X : Cx} {a : Option Addr} {l : List FG} (h : FsIn X.Fr X.w0 a l) {i : Nat} {x : FG} (hx : l[i]? = some x) : ∃ b off, a = some ⟨b, off, none⟩ ∧ (∀ L, RdL X L T.t39 b (off + i * 29) (.agg (fgc x).toArray)) ∧
    ∀ (L : List HP) (ti : TI) (j : Nat) (v : Value), ti.und.agg = false → (fgc x)[j]? = some v → RdL X L ti b (off + i * 29 + j) v := by
  obtain ⟨b, off, h1, h2, h3⟩ := h.at_ (fun e => by rw [e] at hx; cases hx)
  refine ⟨b, off, h1, fun L => RdL.rd h2 ⟨fgc x, rfl, rfl, h3 i x hx⟩, fun L ti j v ha hv => RdL.rd h2 ?_⟩
  rw [ha]; exact h3 i x hx j v hv

abbrev GL := RL FG
def RlIn (Fr : Nat → Prop) (w : World) (r : GL) : Prop := ∀ b, r.blk = some b → Blk Fr w b r.cells
theorem RlIn.sat {Fr : Nat → Prop} {w : World} {r : GL} {t : Nat} (h : SatIn Fr [r.h t] w) : RlIn Fr w r := fun b hb => h.blk 0 (by rw [RL.h_pt hb]; rfl)
theorem RlIn.of {X : Cx} {r : GL} (h : RlIn X.Fr X.w0 r) {Fr' : Nat → Prop} (hF : ∀ b, X.Fr b → Fr' b) {w : World} {L : List HP} (hw : St X L w) : RlIn Fr' w r := fun b hb => (h b hb).of hF hw
theorem RlIn.fs {Fr : Nat → Prop} {w : World} {r : GL} (h : RlIn Fr w r) (hok : r.Ok fgc 29) : FsIn Fr w r.addr r.xs := ⟨fun hne => by
  obtain ⟨b, off, h1, h2, h3⟩ := hok.at_ hne
  obtain ⟨t, fz, ht⟩ := (h b h1).at_
  exact ⟨b, off, h2, (h b h1).fr, fun i x hx => rangeAt_blk ht (h3 i x hx)⟩⟩
theorem RlIn.row {X : Cx} {L : List HP} {r : GL} (h : RlIn X.Fr X.w0 r) (hok : r.Ok fgc 29) : RdRow X L r.v 29 r.xs.length (flat fgc r.xs) := by
  by_cases hx : r.xs = []
  · exact ⟨by simp [hx, flat], .inl ⟨r.addr, r.cap, rfl, by simp [hx]⟩⟩
  · obtain ⟨b, off, h1, h2, h3⟩ := hok.at_ hx
    rw [RL.v, h2]
    exact RdRow.blk (h b h1) (flat_rows h3) (flat_len fgc_len _)

/-! ### A number's text, digit by digit -/
def digits : ByteArray := ⟨#[48, 49, 50, 51, 52, 53, 54, 55, 56, 57]⟩
theorem light_sub {X : Cx} {e : Env} {t : TypeId} {x y : Operand} {s : ByteArray} {tt : TI} {i j : Int} {k k' : IntKind} (hx : ev e x = some (.int k i)) (hy : ev e y = some (.int k' j)) (hT : tyLook X.tab t = some tt) (hu : tt.und = .string)
    (h0 : 0 ≤ i) (h1 : i ≤ j) (h2 : j ≤ s.size) : Light X (.slice t (.const (.string s)) (some x) (some y) none) e (.string (s.extract i.toNat j.toNat)) := by
  intro a ha dst ty pos after guard w
  have hund := und_string (X.ok.look hT) hu
  have h := run_slice_string (P := X.P) (w := w) t s k k' i j hund h0 h1 h2
  simp only [execOp, ha.ev hx, ha.ev hy, Option.map]
  rw [Sem.run_bind, run_sliceAt_string w t _ _ _ _ hund]
  show ((Instr.slice t (.string s) (some (.int k i)) (some (.int k' j)) none).run X.P w).andThen _ = _
  rw [h]; rfl
theorem digit_at (d : Nat) (h : d < 10) : digits.extract d (d + 1) = ⟨#[UInt8.ofNat (48 + d)]⟩ := by
  match d, h with
  | 0, _ => decide +kernel
  | 1, _ => decide +kernel
  | 2, _ => decide +kernel
  | 3, _ => decide +kernel
  | 4, _ => decide +kernel
  | 5, _ => decide +kernel
  | 6, _ => decide +kernel
  | 7, _ => decide +kernel
  | 8, _ => decide +kernel
  | 9, _ => decide +kernel
  | d + 10, h => omega
def natT (n : Nat) : ByteArray := ⟨(Lib.decDigits n).toArray⟩
theorem numT_nat (n : Nat) : numT n = natT n := by unfold numT natT Lib.itoa; rw [if_neg (by omega)]; rfl
theorem natT_small {n : Nat} (h : n < 10) : natT n = ⟨#[UInt8.ofNat (48 + n)]⟩ := by unfold natT; rw [Lib.decDigits, dif_pos h]
theorem natT_step {n : Nat} (h : ¬ n < 10) : natT n = natT (n / 10) ++ ⟨#[UInt8.ofNat (48 + n % 10)]⟩ := by
  unfold natT
  rw [Lib.decDigits, dif_neg h]
  apply ByteArray.ext
  simp
theorem natT_size {n : Nat} (h : n ≤ 1000000) : (natT n).size ≤ 1000001 := by rw [← numT_nat]; exact num_size (by omega) (by omega)

theorem decimal_spec (n : Nat) (hn : n ≤ 1000000) : ∀ (Fr : Nat → Prop) (w : World), Tri Tryd.prog 46 [.int .i64 n] Fr w [] (fun v L => v = .string (natT n) ∧ L = []) := by
  induction n using Nat.strongRecOn with
  | _ n ih =>
    intro Fr w
    have hm : ((n % 10 : Nat) : Int) = (n : Int) % 10 := by omega
    refine Tri.of 18 Tryd.func46 rfl (by kernel_rfl) tabOk rfl rfl ?_
    (repeat (first | refine VC.seq ?_ | refine VC.region ?_ | refine VC.block ?_ | refine VC.label ?_ | refine VC.scope ?_ | refine VO.go (VO.nil ?_) | refine VO.go (VO.ld 0 rfl rfl rfl rfl ?_)))
    refine VO.go (VO.light (light_rem rfl rfl (by omega) (by decide)) ?_)
    (repeat (first | refine VC.seq ?_ | refine VC.region ?_ | refine VC.block ?_ | refine VC.label ?_ | refine VC.scope ?_ | refine VO.go (VO.nil ?_) | refine VO.go (VO.ld 0 rfl rfl rfl rfl ?_)))
    refine VO.go (VO.light (light_rem rfl rfl (by omega) (by decide)) ?_)
    refine VO.go (VO.add rfl rfl (by omega) (by omega) ?_)
    refine VO.go (VO.light (light_sub (s := digits) rfl rfl rfl rfl (by omega) (by omega) (by show _ ≤ (10 : Int); omega)) ?_)
    rw [show digits.extract ((n : Int) % 10).toNat ((n : Int) % 10 + 1).toNat = ⟨#[UInt8.ofNat (48 + n % 10)]⟩ by
      rw [← hm, show ((n % 10 : Nat) : Int).toNat = n % 10 from rfl, show (((n % 10 : Nat) : Int) + 1).toNat = n % 10 + 1 by omega]
      exact digit_at _ (by omega)]
    (repeat (first | refine VC.seq ?_ | refine VC.region ?_ | refine VC.block ?_ | refine VC.label ?_ | refine VC.scope ?_ | refine VO.go (VO.nil ?_) | refine VO.go (VO.ld 0 rfl rfl rfl rfl ?_)))
    refine VC.condP rfl (fun h1 => ?_) (fun h1 => VC.skip ?_)
    · have h1 : n < 10 := by omega
      (repeat (first | refine VC.seq ?_ | refine VC.region ?_ | refine VC.block ?_ | refine VC.label ?_ | refine VC.scope ?_ | refine VO.go (VO.nil ?_) | refine VO.go (VO.ld 0 rfl rfl rfl rfl ?_)))
      exact VC.ret (Ret.tmp 2 rfl rfl Ent.refl ⟨by rw [natT_small h1, Nat.mod_eq_of_lt h1], rfl⟩)
    · have h1 : ¬ n < 10 := by omega
      have hs := natT_size (n := n / 10) (by omega)
      (repeat (first | refine VC.seq ?_ | refine VC.region ?_ | refine VC.block ?_ | refine VC.label ?_ | refine VC.scope ?_ | refine VO.go (VO.nil ?_) | refine VO.go (VO.ld 0 rfl rfl rfl rfl ?_)))
      refine VO.go (VO.light (light_quo ((n / 10 : Nat) : Int) rfl rfl (by omega) (by decide) (by rw [i64_in _ (by omega) (by omega)]; omega)) ?_)
      refine VO.go (VO.callV (fun Fr w => ih (n / 10) (by omega) (by omega) Fr w) rfl ?_)
      (repeat (first | refine VC.seq ?_ | refine VC.region ?_ | refine VC.block ?_ | refine VC.label ?_ | refine VC.scope ?_ | refine VO.go (VO.nil ?_) | refine VO.go (VO.ld 0 rfl rfl rfl rfl ?_)))
      refine VO.go (VO.light (light_cat rfl rfl (by show (natT (n / 10)).size + 1 ≤ _; omega)) ?_)
      (repeat (first | refine VC.seq ?_ | refine VC.region ?_ | refine VC.block ?_ | refine VC.label ?_ | refine VC.scope ?_ | refine VO.go (VO.nil ?_) | refine VO.go (VO.ld 0 rfl rfl rfl rfl ?_)))
      exact VC.ret (Ret.tmp 2 rfl rfl Ent.refl ⟨by rw [natT_step h1], rfl⟩)

/-! ### Counting -/
def hit (k c r : Int) (x : FrameM) : Bool := decide (x.kind = k) && (decide (c < 0) || decide (x.cls = c)) && (decide (r < 0) || decide (x.reason = r))
def cntN (k c r : Int) : List FrameM → Int
  | [] => 0
  | x :: l => (if hit k c r x then 1 else 0) + cntN k c r l
def cntB (k c r : Int) : List FrameM → Int
  | [] => 0
  | x :: l => (if hit k c r x then opCost x.op else 0) + cntB k c r l
theorem cntN_app (k c r : Int) : ∀ (l m : List FrameM), cntN k c r (l ++ m) = cntN k c r l + cntN k c r m
  | [], m => by simp [cntN]
  | x :: l, m => by simp only [List.cons_append, cntN, cntN_app k c r l m]; omega
theorem cntB_app (k c r : Int) : ∀ (l m : List FrameM), cntB k c r (l ++ m) = cntB k c r l + cntB k c r m
  | [], m => by simp [cntB]
  | x :: l, m => by simp only [List.cons_append, cntB, cntB_app k c r l m]; omega
theorem cntN_le (k c r : Int) : ∀ l : List FrameM, 0 ≤ cntN k c r l ∧ cntN k c r l ≤ l.length
  | [] => by simp [cntN]
  | x :: l => by have := cntN_le k c r l; simp only [cntN, List.length_cons]; split <;> omega
theorem cntB_le (k c r : Int) : ∀ l : List FrameM, 0 ≤ cntB k c r l ∧ cntB k c r l ≤ l.length * 96
  | [] => by simp [cntB]
  | x :: l => by have := cntB_le k c r l; have := opCost_le x.op; simp only [cntB, List.length_cons]; split <;> omega

set_option maxRecDepth 100000 in
theorem count_spec (Fr : Nat → Prop) (w : World) {a : Option Addr} {cap : Nat} {l : List FG} (h : FsIn Fr w a l) (hl : l.length ≤ 1000) (k c r : Int) :
    Tri Tryd.prog 21 [.slice a l.length cap, .int .i64 k, .int .i64 c, .int .i64 r] Fr w [] (fun v L => v = .tuple #[.int .i64 (cntN k c r (l.map Prod.fst)), .int .i64 (cntB k c r (l.map Prod.fst))] ∧ L = []) := by
  refine Tri.of 57 Tryd.func21 rfl (by kernel_rfl) tabOk rfl rfl ?_
  (repeat (first | refine VC.seq ?_ | refine VC.region ?_ | refine VC.block ?_ | refine VC.label ?_ | refine VC.scope ?_ | refine VO.go (VO.nil ?_) | refine VO.go (VO.ld 0 rfl rfl rfl rfl ?_)))
  refine VC.loop (σ := Nat) (fun i => [(0, .slice a l.length cap), (1, .int .i64 k), (2, .int .i64 c), (3, .int .i64 r), (10, .int .i64 (cntN k c r ((l.take i).map Prod.fst))), (11, .int .i64 (cntB k c r ((l.take i).map Prod.fst))), (12, .int .i64 i)])
    (fun _ => []) (fun i => i ≤ l.length) (fun i => l.length - i) 0 (Nat.zero_le _) (Sub.cons rfl (Sub.cons rfl (Sub.cons rfl (Sub.cons rfl (Sub.cons rfl (Sub.cons rfl (Sub.cons rfl (Sub.nil _)))))))) Ent.refl ?_
  intro i hi
  (repeat (first | refine VC.seq ?_ | refine VC.region ?_ | refine VC.block ?_ | refine VC.label ?_ | refine VC.scope ?_ | refine VO.go (VO.nil ?_) | refine VO.go (VO.ld 0 rfl rfl rfl rfl ?_)))
  refine VC.condP rfl (fun h1 => VC.skip ?_) (fun h1 => VC.exit ?_)
  · have hi2 : i < l.length := by omega
    have hx := List.getElem?_eq_getElem hi2
    generalize l[i] = x at hx
    obtain ⟨fb, fo, rfl, ra, _⟩ := FsIn.rd (X := ⟨Tryd.prog, tab, tabOk, 57, Fr, w⟩) h hx
    have hN := cntN_le k c r ((l.take i).map Prod.fst)
    have hB := cntB_le k c r ((l.take i).map Prod.fst)
    simp only [List.length_map, List.length_take] at hN hB
    have hco := opCost_le x.1.op
    have eN : cntN k c r ((l.take (i + 1)).map Prod.fst) = cntN k c r ((l.take i).map Prod.fst) + (if hit k c r x.1 then 1 else 0) := by
      rw [List.take_add_one, hx, List.map_append, cntN_app]; simp [cntN]
    have eB : cntB k c r ((l.take (i + 1)).map Prod.fst) = cntB k c r ((l.take i).map Prod.fst) + (if hit k c r x.1 then opCost x.1.op else 0) := by
      rw [List.take_add_one, hx, List.map_append, cntB_app]; simp [cntB]
    (repeat (first | refine VC.seq ?_ | refine VC.region ?_ | refine VC.block ?_ | refine VC.label ?_ | refine VC.scope ?_ | refine VO.go (VO.nil ?_) | refine VO.go (VO.ld 0 rfl rfl rfl rfl ?_)))
    refine VO.go (VO.light (light_idx i rfl rfl rfl rfl rfl rfl hi2) ?_)
    refine VO.go (VO.load rfl rfl (ra _) (VO.go (VO.alloc rfl fun b => ?_)))
    refine VO.go (VO.stA (vs := fgc x) (cs' := fgc x) 0 rfl rfl rfl rfl (Nat.le_refl _) rfl rfl rfl ?_)
    refine VO.go (VO.nil ?_)
    refine VC.meet (σ := Bool) (fun t => [(0, .slice (some ⟨fb, fo, none⟩) l.length cap), (1, .int .i64 k), (2, .int .i64 c), (3, .int .i64 r), (10, .int .i64 (cntN k c r ((l.take i).map Prod.fst))), (11, .int .i64 (cntB k c r ((l.take i).map Prod.fst))), (12, .int .i64 i), (13, .pointer (some ⟨b, 0, none⟩)), (47, .bool t)])
      (fun _ => [pt b (fgc x) 39]) (fun t => t = hit k c r x.1) ?_ ?_
    · refine VC.region ?_
      (repeat (first | refine VC.seq ?_ | refine VC.region ?_ | refine VC.block ?_ | refine VC.label ?_ | refine VC.scope ?_ | refine VO.go (VO.nil ?_) | refine VO.go (VO.ld 0 rfl rfl rfl rfl ?_)))
      refine VO.go (VO.split 28 rfl rfl (fun h2 => ?_) (fun h2 => ?_))
      · have h2 : x.1.kind = k := eq_of_beq h2
        (repeat (first | refine VC.seq ?_ | refine VC.region ?_ | refine VC.block ?_ | refine VC.label ?_ | refine VC.scope ?_ | refine VO.go (VO.nil ?_) | refine VO.go (VO.ld 0 rfl rfl rfl rfl ?_)))
        refine VO.go (VO.split 31 rfl rfl (fun h3 => ?_) (fun h3 => ?_))
        · have h3 := of_decide_eq_true h3
          (repeat (first | refine VC.seq ?_ | refine VC.region ?_ | refine VC.block ?_ | refine VC.label ?_ | refine VC.scope ?_ | refine VO.go (VO.nil ?_) | refine VO.go (VO.ld 0 rfl rfl rfl rfl ?_)))
          refine VO.go (VO.yes 38 true rfl rfl ?_)
          (repeat (first | refine VC.seq ?_ | refine VC.region ?_ | refine VC.block ?_ | refine VC.label ?_ | refine VC.scope ?_ | refine VO.go (VO.nil ?_) | refine VO.go (VO.ld 0 rfl rfl rfl rfl ?_)))
          refine VO.go (VO.split 41 rfl rfl (fun h5 => ?_) (fun h5 => ?_))
          · have h5 := of_decide_eq_true h5
            refine VO.go (VO.nil ⟨true, by simp [hit, h2, h3, h5], Sub.cons rfl (Sub.cons rfl (Sub.cons rfl (Sub.cons rfl (Sub.cons rfl (Sub.cons rfl (Sub.cons rfl (Sub.cons rfl (Sub.cons rfl (Sub.nil _))))))))), Ent.refl⟩)
          · have h5 := of_decide_eq_false h5
            refine VO.go (VO.ld 0 rfl rfl rfl rfl (VO.go (VO.nil ⟨decide (x.1.reason = r), by simp [hit, h2, h3, h5], Sub.cons rfl (Sub.cons rfl (Sub.cons rfl (Sub.cons rfl (Sub.cons rfl (Sub.cons rfl (Sub.cons rfl (Sub.cons rfl (Sub.bool rfl (beq_dec _ _) (Sub.nil _))))))))), Ent.refl⟩)))
        · have h3 := of_decide_eq_false h3
          (repeat (first | refine VC.seq ?_ | refine VC.region ?_ | refine VC.block ?_ | refine VC.label ?_ | refine VC.scope ?_ | refine VO.go (VO.nil ?_) | refine VO.go (VO.ld 0 rfl rfl rfl rfl ?_)))
          refine VO.go (VO.split 38 rfl rfl (fun h4 => ?_) (fun h4 => ?_))
          · have h4 : x.1.cls = c := eq_of_beq h4
            (repeat (first | refine VC.seq ?_ | refine VC.region ?_ | refine VC.block ?_ | refine VC.label ?_ | refine VC.scope ?_ | refine VO.go (VO.nil ?_) | refine VO.go (VO.ld 0 rfl rfl rfl rfl ?_)))
            refine VO.go (VO.split 41 rfl rfl (fun h5 => ?_) (fun h5 => ?_))
            · have h5 := of_decide_eq_true h5
              refine VO.go (VO.nil ⟨true, by simp [hit, h2, h3, h4, h5], Sub.cons rfl (Sub.cons rfl (Sub.cons rfl (Sub.cons rfl (Sub.cons rfl (Sub.cons rfl (Sub.cons rfl (Sub.cons rfl (Sub.cons rfl (Sub.nil _))))))))), Ent.refl⟩)
            · have h5 := of_decide_eq_false h5
              refine VO.go (VO.ld 0 rfl rfl rfl rfl (VO.go (VO.nil ⟨decide (x.1.reason = r), by simp [hit, h2, h3, h4, h5], Sub.cons rfl (Sub.cons rfl (Sub.cons rfl (Sub.cons rfl (Sub.cons rfl (Sub.cons rfl (Sub.cons rfl (Sub.cons rfl (Sub.bool rfl (beq_dec _ _) (Sub.nil _))))))))), Ent.refl⟩)))
          · have h4 : x.1.cls ≠ c := ne_of_beq_false h4
            (repeat (first | refine VC.seq ?_ | refine VC.region ?_ | refine VC.block ?_ | refine VC.label ?_ | refine VC.scope ?_ | refine VO.go (VO.nil ?_) | refine VO.go (VO.ld 0 rfl rfl rfl rfl ?_)))
            iterate 4 refine VO.go (VO.offU rfl rfl rfl ?_)
            refine VO.go (VO.nil ⟨false, by simp [hit, h2, h3, h4], Sub.cons rfl (Sub.cons rfl (Sub.cons rfl (Sub.cons rfl (Sub.cons rfl (Sub.cons rfl (Sub.cons rfl (Sub.cons rfl (Sub.cons rfl (Sub.nil _))))))))), Ent.refl⟩)
      · have h2 : x.1.kind ≠ k := ne_of_beq_false h2
        (repeat (first | refine VC.seq ?_ | refine VC.region ?_ | refine VC.block ?_ | refine VC.label ?_ | refine VC.scope ?_ | refine VO.go (VO.nil ?_) | refine VO.go (VO.ld 0 rfl rfl rfl rfl ?_)))
        iterate 4 refine VO.go (VO.offU rfl rfl rfl ?_)
        refine VO.go (VO.yes 38 false rfl rfl ?_)
        (repeat (first | refine VC.seq ?_ | refine VC.region ?_ | refine VC.block ?_ | refine VC.label ?_ | refine VC.scope ?_ | refine VO.go (VO.nil ?_) | refine VO.go (VO.ld 0 rfl rfl rfl rfl ?_)))
        iterate 4 refine VO.go (VO.offU rfl rfl rfl ?_)
        refine VO.go (VO.nil ⟨false, by simp [hit, h2], Sub.cons rfl (Sub.cons rfl (Sub.cons rfl (Sub.cons rfl (Sub.cons rfl (Sub.cons rfl (Sub.cons rfl (Sub.cons rfl (Sub.cons rfl (Sub.nil _))))))))), Ent.refl⟩)
    · intro t ht
      refine VC.cond rfl (fun h2 => ?_) (fun h2 => VC.skip ?_)
      · rw [h2] at ht
        (repeat (first | refine VC.seq ?_ | refine VC.region ?_ | refine VC.block ?_ | refine VC.label ?_ | refine VC.scope ?_ | refine VO.go (VO.nil ?_) | refine VO.go (VO.ld 0 rfl rfl rfl rfl ?_)))
        refine VO.go (VO.add rfl rfl (by omega) (by omega) ?_)
        (repeat (first | refine VC.seq ?_ | refine VC.region ?_ | refine VC.block ?_ | refine VC.label ?_ | refine VC.scope ?_ | refine VO.go (VO.nil ?_) | refine VO.go (VO.ld 0 rfl rfl rfl rfl ?_)))
        refine VO.go (VO.ldA 0 x.1.op.cells rfl rfl rfl rfl ?_)
        refine VO.go (VO.callV (fun Fr w => rcost_spec Fr w x.1.op) rfl ?_)
        refine VO.go (VO.add rfl rfl (by omega) (by omega) ?_)
        (repeat (first | refine VC.seq ?_ | refine VC.region ?_ | refine VC.block ?_ | refine VC.label ?_ | refine VC.scope ?_ | refine VO.go (VO.nil ?_) | refine VO.go (VO.ld 0 rfl rfl rfl rfl ?_)))
        refine VO.go (VO.add rfl rfl (by omega) (by omega) ?_)
        (repeat (first | refine VC.seq ?_ | refine VC.region ?_ | refine VC.block ?_ | refine VC.label ?_ | refine VC.scope ?_ | refine VO.go (VO.nil ?_) | refine VO.go (VO.ld 0 rfl rfl rfl rfl ?_)))
        refine ⟨i + 1, hi2, by dsimp only; omega, Sub.cons rfl (Sub.cons rfl (Sub.cons rfl (Sub.cons rfl (Sub.int rfl ?_ (Sub.int rfl ?_ (Sub.cons rfl (Sub.nil _))))))), Imp.nil.ent⟩
        · rw [eN, ← ht, if_pos rfl]
        · rw [eB, ← ht, if_pos rfl]
      · rw [h2] at ht
        (repeat (first | refine VC.seq ?_ | refine VC.region ?_ | refine VC.block ?_ | refine VC.label ?_ | refine VC.scope ?_ | refine VO.go (VO.nil ?_) | refine VO.go (VO.ld 0 rfl rfl rfl rfl ?_)))
        refine VO.go (VO.add rfl rfl (by omega) (by omega) ?_)
        (repeat (first | refine VC.seq ?_ | refine VC.region ?_ | refine VC.block ?_ | refine VC.label ?_ | refine VC.scope ?_ | refine VO.go (VO.nil ?_) | refine VO.go (VO.ld 0 rfl rfl rfl rfl ?_)))
        refine ⟨i + 1, hi2, by dsimp only; omega, Sub.cons rfl (Sub.cons rfl (Sub.cons rfl (Sub.cons rfl (Sub.int rfl ?_ (Sub.int rfl ?_ (Sub.cons rfl (Sub.nil _))))))), Imp.nil.ent⟩
        · rw [eN, ← ht]; simp
        · rw [eB, ← ht]; simp
  · have hi2 : i = l.length := by omega
    subst hi2
    rw [List.take_length]
    (repeat (first | refine VC.seq ?_ | refine VC.region ?_ | refine VC.block ?_ | refine VC.label ?_ | refine VC.scope ?_ | refine VO.go (VO.nil ?_) | refine VO.go (VO.ld 0 rfl rfl rfl rfl ?_)))
    exact VC.ret (Ret.tmp2 8 9 rfl rfl rfl Ent.refl ⟨rfl, rfl⟩)
end Go.Proofs.YtoinocihlfmnnaaDoor.Met
