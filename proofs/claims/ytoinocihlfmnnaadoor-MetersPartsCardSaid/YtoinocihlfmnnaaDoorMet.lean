/- Meters: made, seen, read, copied. No condition but that no counter is great. -/
import Derived.Test.YtoinocihlfmnnaaDoorCnt
namespace Go.Proofs.YtoinocihlfmnnaaDoor.Met
open Go Go.Proofs.YtoinocihlfmnnaaDoor.Vg Go.Proofs.YtoinocihlfmnnaaDoor.T Go.Proofs.YtoinocihlfmnnaaDoor.Api Go.Proofs.YtoinocihlfmnnaaDoor.Cnt
set_option linter.unusedSimpArgs false
set_option linter.unusedVariables false
attribute [local irreducible] VO VC VA

/-! ### Sums and products that don't run over -/
theorem nadd_spec (Fr : Nat → Prop) (w : World) (a b : Int) (ha0 : 0 ≤ a) (ha : a ≤ 1000000000) (hb0 : 0 ≤ b) (hb : b ≤ 1000000000) : Tri Tryd.prog 38 [.int .i64 a, .int .i64 b] Fr w [] (fun v L => v = .int .i64 (a + b) ∧ L = []) := by
  refine Tri.of 26 Tryd.func38 rfl (by kernel_rfl) tabOk rfl rfl ?_
  (repeat (first | refine VC.seq ?_ | refine VC.region ?_ | refine VC.block ?_ | refine VC.label ?_ | refine VC.scope ?_ | refine VO.go (VO.nil ?_) | refine VO.go (VO.ld 0 rfl rfl rfl rfl ?_)))
  have tail : ∀ e, Sub [(0, .int .i64 a), (1, .int .i64 b)] e → True := fun _ _ => trivial
  refine VO.go (VO.split 8 rfl rfl (fun h1 => ?_) (fun h1 => ?_))
  · (repeat (first | refine VC.seq ?_ | refine VC.region ?_ | refine VC.block ?_ | refine VC.label ?_ | refine VC.scope ?_ | refine VO.go (VO.nil ?_) | refine VO.go (VO.ld 0 rfl rfl rfl rfl ?_)))
    refine VO.go (VO.sub' rfl rfl (by omega) (by omega) ?_)
    (repeat (first | refine VC.seq ?_ | refine VC.region ?_ | refine VC.block ?_ | refine VC.label ?_ | refine VC.scope ?_ | refine VO.go (VO.nil ?_) | refine VO.go (VO.ld 0 rfl rfl rfl rfl ?_)))
    refine VC.condF (congrArg (fun b => some (Value.bool b)) (decide_eq_false (by omega))) ?_
    (repeat (first | refine VC.seq ?_ | refine VC.region ?_ | refine VC.block ?_ | refine VC.label ?_ | refine VC.scope ?_ | refine VO.go (VO.nil ?_) | refine VO.go (VO.ld 0 rfl rfl rfl rfl ?_)))
    refine VO.go (VO.yes 17 false rfl (decide_eq_false (by omega)) ?_)
    (repeat (first | refine VC.seq ?_ | refine VC.region ?_ | refine VC.block ?_ | refine VC.label ?_ | refine VC.scope ?_ | refine VO.go (VO.nil ?_) | refine VO.go (VO.ld 0 rfl rfl rfl rfl ?_)))
    refine VC.condF rfl (VC.skip ?_)
    (repeat (first | refine VC.seq ?_ | refine VC.region ?_ | refine VC.block ?_ | refine VC.label ?_ | refine VC.scope ?_ | refine VO.go (VO.nil ?_) | refine VO.go (VO.ld 0 rfl rfl rfl rfl ?_)))
    refine VO.go (VO.add rfl rfl (by omega) (by omega) ?_)
    (repeat (first | refine VC.seq ?_ | refine VC.region ?_ | refine VC.block ?_ | refine VC.label ?_ | refine VC.scope ?_ | refine VO.go (VO.nil ?_) | refine VO.go (VO.ld 0 rfl rfl rfl rfl ?_)))
    exact VC.ret (Ret.tmp 4 rfl rfl Ent.refl ⟨rfl, rfl⟩)
  · (repeat (first | refine VC.seq ?_ | refine VC.region ?_ | refine VC.block ?_ | refine VC.label ?_ | refine VC.scope ?_ | refine VO.go (VO.nil ?_) | refine VO.go (VO.ld 0 rfl rfl rfl rfl ?_)))
    refine VC.condF rfl ?_
    (repeat (first | refine VC.seq ?_ | refine VC.region ?_ | refine VC.block ?_ | refine VC.label ?_ | refine VC.scope ?_ | refine VO.go (VO.nil ?_) | refine VO.go (VO.ld 0 rfl rfl rfl rfl ?_)))
    refine VO.go (VO.yes 17 false rfl (decide_eq_false (by omega)) ?_)
    (repeat (first | refine VC.seq ?_ | refine VC.region ?_ | refine VC.block ?_ | refine VC.label ?_ | refine VC.scope ?_ | refine VO.go (VO.nil ?_) | refine VO.go (VO.ld 0 rfl rfl rfl rfl ?_)))
    refine VC.condF rfl (VC.skip ?_)
    (repeat (first | refine VC.seq ?_ | refine VC.region ?_ | refine VC.block ?_ | refine VC.label ?_ | refine VC.scope ?_ | refine VO.go (VO.nil ?_) | refine VO.go (VO.ld 0 rfl rfl rfl rfl ?_)))
    refine VO.go (VO.add rfl rfl (by omega) (by omega) ?_)
    (repeat (first | refine VC.seq ?_ | refine VC.region ?_ | refine VC.block ?_ | refine VC.label ?_ | refine VC.scope ?_ | refine VO.go (VO.nil ?_) | refine VO.go (VO.ld 0 rfl rfl rfl rfl ?_)))
    exact VC.ret (Ret.tmp 4 rfl rfl Ent.refl ⟨rfl, rfl⟩)

theorem nmul_spec (Fr : Nat → Prop) (w : World) (a : Int) (ha0 : 0 ≤ a) (ha : a ≤ 1000000000) : Tri Tryd.prog 39 [.int .i64 a, .int .i64 100] Fr w [] (fun v L => v = .int .i64 (a * 100) ∧ L = []) := by
  refine Tri.of 41 Tryd.func39 rfl (by kernel_rfl) tabOk rfl rfl ?_
  (repeat (first | refine VC.seq ?_ | refine VC.region ?_ | refine VC.block ?_ | refine VC.label ?_ | refine VC.scope ?_ | refine VO.go (VO.nil ?_) | refine VO.go (VO.ld 0 rfl rfl rfl rfl ?_)))
  refine VO.go (VO.split 9 rfl rfl (fun h1 => ?_) (fun h1 => ?_))
  · have h1 : a = 0 := eq_of_beq h1
    (repeat (first | refine VC.seq ?_ | refine VC.region ?_ | refine VC.block ?_ | refine VC.label ?_ | refine VC.scope ?_ | refine VO.go (VO.nil ?_) | refine VO.go (VO.ld 0 rfl rfl rfl rfl ?_)))
    refine VC.condT rfl ?_
    (repeat (first | refine VC.seq ?_ | refine VC.region ?_ | refine VC.block ?_ | refine VC.label ?_ | refine VC.scope ?_ | refine VO.go (VO.nil ?_) | refine VO.go (VO.ld 0 rfl rfl rfl rfl ?_)))
    exact VC.ret (Ret.int 4 rfl rfl (by omega) Ent.refl ⟨rfl, rfl⟩)
  · have h1 : a ≠ 0 := ne_of_beq_false h1
    (repeat (first | refine VC.seq ?_ | refine VC.region ?_ | refine VC.block ?_ | refine VC.label ?_ | refine VC.scope ?_ | refine VO.go (VO.nil ?_) | refine VO.go (VO.ld 0 rfl rfl rfl rfl ?_)))
    refine VC.condF rfl (VC.skip ?_)
    (repeat (first | refine VC.seq ?_ | refine VC.region ?_ | refine VC.block ?_ | refine VC.label ?_ | refine VC.scope ?_ | refine VO.go (VO.nil ?_) | refine VO.go (VO.ld 0 rfl rfl rfl rfl ?_)))
    refine VO.go (VO.mul rfl rfl (by omega) (by omega) ?_)
    (repeat (first | refine VC.seq ?_ | refine VC.region ?_ | refine VC.block ?_ | refine VC.label ?_ | refine VC.scope ?_ | refine VO.go (VO.nil ?_) | refine VO.go (VO.ld 0 rfl rfl rfl rfl ?_)))
    refine VO.go (VO.light (light_quo a rfl rfl (by omega) (by omega) (by rw [Int.mul_ediv_cancel a (by decide)]; exact i64_in _ (by omega) (by omega))) ?_)
    (repeat (first | refine VC.seq ?_ | refine VC.region ?_ | refine VC.block ?_ | refine VC.label ?_ | refine VC.scope ?_ | refine VO.go (VO.nil ?_) | refine VO.go (VO.ld 0 rfl rfl rfl rfl ?_)))
    refine VO.go (VO.yes 21 false rfl (by simp) ?_)
    (repeat (first | refine VC.seq ?_ | refine VC.region ?_ | refine VC.block ?_ | refine VC.label ?_ | refine VC.scope ?_ | refine VO.go (VO.nil ?_) | refine VO.go (VO.ld 0 rfl rfl rfl rfl ?_)))
    refine VO.go (VO.yes 24 false rfl (by simp; omega) ?_)
    (repeat (first | refine VC.seq ?_ | refine VC.region ?_ | refine VC.block ?_ | refine VC.label ?_ | refine VC.scope ?_ | refine VO.go (VO.nil ?_) | refine VO.go (VO.ld 0 rfl rfl rfl rfl ?_)))
    refine VO.go (VO.yes 31 false rfl rfl ?_)
    (repeat (first | refine VC.seq ?_ | refine VC.region ?_ | refine VC.block ?_ | refine VC.label ?_ | refine VC.scope ?_ | refine VO.go (VO.nil ?_) | refine VO.go (VO.ld 0 rfl rfl rfl rfl ?_)))
    refine VC.condF rfl ?_
    (repeat (first | refine VC.seq ?_ | refine VC.region ?_ | refine VC.block ?_ | refine VC.label ?_ | refine VC.scope ?_ | refine VO.go (VO.nil ?_) | refine VO.go (VO.ld 0 rfl rfl rfl rfl ?_)))
    refine VC.condF rfl (VC.skip ?_)
    (repeat (first | refine VC.seq ?_ | refine VC.region ?_ | refine VC.block ?_ | refine VC.label ?_ | refine VC.scope ?_ | refine VO.go (VO.nil ?_) | refine VO.go (VO.ld 0 rfl rfl rfl rfl ?_)))
    exact VC.ret (Ret.tmp 4 rfl rfl Ent.refl ⟨rfl, rfl⟩)

/-! ### Meters -/
structure MM where
  c : Nat
  l : List Int
structure MM.Ok (M : MM) : Prop where
  c1 : 1 ≤ M.c
  c4 : M.c ≤ 4
  len : M.l.length = 2 * M.c + 11
  low : ∀ x ∈ M.l, 0 ≤ x ∧ x ≤ 1000000
def MM.at_ (M : MM) (i : Nat) : Int := M.l.getD i 0
def MM.add (M : MM) (i : Nat) (y : Int) : MM := ⟨M.c, M.l.set i (M.at_ i + y)⟩
def MM.calls (M : MM) (n : Int) : Int := if 0 ≤ n ∧ n < M.c then M.at_ (2 * n.toNat) else 0
def MM.bytes (M : MM) (n : Int) : Int := if 0 ≤ n ∧ n < M.c then M.at_ (2 * n.toNat + 1) else 0
def MM.replies (M : MM) : Int := M.at_ (2 * M.c)
def MM.refused (M : MM) (n : Int) : Int := if 1 ≤ n ∧ n ≤ 10 then M.at_ (2 * M.c + n.toNat) else 0
def MM.sum (M : MM) : Nat → Int
  | 0 => 0
  | n + 1 => M.sum n + M.bytes n
def MM.share (M : MM) (n : Int) : Int := if 0 ≤ n ∧ n < M.c then if M.sum M.c = 0 then 0 else M.bytes n * 100 / M.sum M.c else 0
def MM.new (c : Nat) : MM := ⟨c, List.replicate (2 * c + 11) 0⟩
def MM.see (M : MM) (f : FrameM) : MM × Int :=
  if f.kind = 1 then (if 0 ≤ f.cls ∧ f.cls < M.c then ((M.add (2 * f.cls.toNat) 1).add (2 * f.cls.toNat + 1) (opCost f.op), 0) else (M, 2))
  else if f.kind = 2 then (M.add (2 * M.c) 1, 0)
  else if f.kind = 3 then (if 1 ≤ f.reason ∧ f.reason ≤ 10 then (M.add (2 * M.c + f.reason.toNat) 1, 0) else (M, 2))
  else (M, 0)

theorem MM.at_some {M : MM} {i : Nat} (h : i < M.l.length) : M.l[i]? = some (M.at_ i) := by
  unfold MM.at_; rw [List.getD_eq_getElem?_getD, List.getElem?_eq_getElem h]; rfl
theorem MM.Ok.at_ {M : MM} (h : M.Ok) (i : Nat) : 0 ≤ M.at_ i ∧ M.at_ i ≤ 1000000 := by
  unfold MM.at_
  rw [List.getD_eq_getElem?_getD]
  cases hx : M.l[i]? with
  | none => simp
  | some x => exact h.low x (List.mem_of_getElem? hx)
theorem MM.Ok.bytes {M : MM} (h : M.Ok) (n : Int) : 0 ≤ M.bytes n ∧ M.bytes n ≤ 1000000 := by
  unfold MM.bytes; split
  · exact h.at_ _
  · simp
theorem MM.Ok.calls {M : MM} (h : M.Ok) (n : Int) : 0 ≤ M.calls n ∧ M.calls n ≤ 1000000 := by
  unfold MM.calls; split
  · exact h.at_ _
  · simp
theorem MM.Ok.refused {M : MM} (h : M.Ok) (n : Int) : 0 ≤ M.refused n ∧ M.refused n ≤ 1000000 := by
  unfold MM.refused; split
  · exact h.at_ _
  · simp
theorem MM.Ok.sum {M : MM} (h : M.Ok) : ∀ n : Nat, 0 ≤ M.sum n ∧ M.sum n ≤ n * 1000000
  | 0 => by simp [MM.sum]
  | n + 1 => by
    have h1 := h.sum n
    have h2 := h.bytes n
    simp only [MM.sum]; omega
theorem MM.Ok.bytes_le {M : MM} (h : M.Ok) : ∀ (n : Nat) (k : Nat), k < n → M.bytes k ≤ M.sum n
  | 0, k, hk => by omega
  | n + 1, k, hk => by
    have h1 := h.sum n
    have h2 := h.bytes n
    simp only [MM.sum]
    by_cases e : k = n
    · subst e; omega
    · have := h.bytes_le n k (by omega); omega
theorem MM.Ok.share {M : MM} (h : M.Ok) (n : Int) : 0 ≤ M.share n ∧ M.share n ≤ 100 := by
  unfold MM.share
  split
  · rename_i hn
    obtain ⟨k, rfl⟩ := Int.eq_ofNat_of_zero_le hn.1
    have h1 := h.sum M.c
    have h2 := h.bytes k
    have h3 := h.bytes_le M.c k (by omega)
    split
    · simp
    · refine ⟨Int.ediv_nonneg (by omega) (by omega), ?_⟩
      apply Int.le_of_lt_add_one
      apply Int.ediv_lt_of_lt_mul (by omega)
      omega
  · simp

def mtH (p : Nat) (M : MM) : HP := hex fun x : Nat × Nat => hsep [pt p [.int .i64 M.c, .pointer (some ⟨x.1, 0, none⟩)] 55, pt x.1 [.slice (some ⟨x.2, 0, none⟩) M.l.length M.l.length] 113, pt x.2 (iv M.l) 118]
theorem HOpn.mt (p : Nat) (M : MM) : HOpn (ι := Nat × Nat) (mtH p M) (fun _ => True) (fun x => [pt p [.int .i64 M.c, .pointer (some ⟨x.1, 0, none⟩)] 55, pt x.1 [.slice (some ⟨x.2, 0, none⟩) M.l.length M.l.length] 113, pt x.2 (iv M.l) 118]) :=
  fun _ ids ⟨x, h⟩ hn => ⟨x, trivial, ids, h, hn, fun _ h => h⟩
theorem Imp.mt {p q r : Nat} {M : MM} {L L' : List HP} {n : Nat} (hn : n = M.l.length) (h : Imp L L') : Imp (pt p [.int .i64 M.c, .pointer (some ⟨q, 0, none⟩)] 55 :: pt q [.slice (some ⟨r, 0, none⟩) n n] 113 :: pt r (iv M.l) 118 :: L) (mtH p M :: L') := by
  subst hn
  exact Imp.ex (q, r) (Imp.sep (Imp.app (L := [_, _, _]) (M := [_, _, _]) Imp.refl h))
structure MIn (Fr : Nat → Prop) (w : World) (p : Nat) (M : MM) (q r : Nat) : Prop where
  box : Blk Fr w p [.int .i64 M.c, .pointer (some ⟨q, 0, none⟩)]
  cnt : CIn Fr w q M.l r
theorem MIn.sat {Fr : Nat → Prop} {w : World} {p : Nat} {M : MM} (h : SatIn Fr [mtH p M] w) : ∃ q r, MIn Fr w p M q r := by
  obtain ⟨x, h⟩ := h.ex
  have h := h.sep
  exact ⟨x.1, x.2, h.blk 0 rfl, h.blk 1 rfl, h.blk 2 rfl⟩
theorem MIn.of {X : Cx} {p q r : Nat} {M : MM} (h : MIn X.Fr X.w0 p M q r) {Fr' : Nat → Prop} (hF : ∀ b, X.Fr b → Fr' b) {w : World} {L : List HP} (hw : St X L w) : MIn Fr' w p M q r := ⟨h.box.of hF hw, h.cnt.of hF hw⟩

theorem made_spec (Fr : Nat → Prop) (w : World) {p q : Nat} {c : Int} (hb : Blk Fr w p [.int .i64 c, .pointer (some ⟨q, 0, none⟩)]) : Tri Tryd.prog 32 [.pointer (some ⟨p, 0, none⟩)] Fr w [] (fun v L => v = .bool true ∧ L = []) := by
  refine Tri.of 12 Tryd.func32 rfl (by kernel_rfl) tabOk rfl rfl ?_
  (repeat (first | refine VC.seq ?_ | refine VC.region ?_ | refine VC.block ?_ | refine VC.label ?_ | refine VC.scope ?_ | refine VO.go (VO.nil ?_) | refine VO.go (VO.ld 0 rfl rfl rfl rfl ?_)))
  refine VO.go (VO.yes 5 true rfl rfl ?_)
  (repeat (first | refine VC.seq ?_ | refine VC.region ?_ | refine VC.block ?_ | refine VC.label ?_ | refine VC.scope ?_ | refine VO.go (VO.nil ?_) | refine VO.go (VO.load rfl rfl (RdL.blk hb rfl) ?_)))
  exact VC.ret (Ret.tmp 2 rfl rfl Ent.refl ⟨rfl, rfl⟩)
theorem isClass_spec (Fr : Nat → Prop) (w : World) {p q r : Nat} {M : MM} (h : MIn Fr w p M q r) (n : Int) : Tri Tryd.prog 33 [.pointer (some ⟨p, 0, none⟩), .int .i64 n] Fr w [] (fun v L => v = .bool (decide (0 ≤ n ∧ n < M.c)) ∧ L = []) := by
  have hb := h.box
  refine Tri.of 19 Tryd.func33 rfl (by kernel_rfl) tabOk rfl rfl ?_
  (repeat (first | refine VC.seq ?_ | refine VC.region ?_ | refine VC.block ?_ | refine VC.label ?_ | refine VC.scope ?_ | refine VO.go (VO.nil ?_) | refine VO.go (VO.ld 0 rfl rfl rfl rfl ?_)))
  refine VO.go (VO.callV' (fun Fr w hF hs _ => made_spec Fr w (hb.of hF hs)) rfl ?_)
  (repeat (first | refine VC.seq ?_ | refine VC.region ?_ | refine VC.block ?_ | refine VC.label ?_ | refine VC.scope ?_ | refine VO.go (VO.nil ?_) | refine VO.go (VO.ld 0 rfl rfl rfl rfl ?_)))
  refine VO.go (VO.yes 7 true rfl rfl ?_)
  (repeat (first | refine VC.seq ?_ | refine VC.region ?_ | refine VC.block ?_ | refine VC.label ?_ | refine VC.scope ?_ | refine VO.go (VO.nil ?_) | refine VO.go (VO.ld 0 rfl rfl rfl rfl ?_)))
  refine VO.go (VO.split 11 rfl rfl (fun h1 => ?_) (fun h1 => ?_))
  · have h1 := of_decide_eq_true h1
    (repeat (first | refine VC.seq ?_ | refine VC.region ?_ | refine VC.block ?_ | refine VC.label ?_ | refine VC.scope ?_ | refine VO.go (VO.nil ?_) | refine VO.go (VO.load rfl rfl (RdL.blk hb rfl) ?_)))
    exact VC.ret (Ret.bool 4 rfl rfl (by simp [h1]) Ent.refl ⟨rfl, rfl⟩)
  · have h1 := of_decide_eq_false h1
    (repeat (first | refine VC.seq ?_ | refine VC.region ?_ | refine VC.block ?_ | refine VC.label ?_ | refine VC.scope ?_ | refine VO.go (VO.nil ?_) | refine VO.go (VO.ld 0 rfl rfl rfl rfl ?_)))
    exact VC.ret (Ret.bool 4 rfl rfl (by simp; omega) Ent.refl ⟨rfl, rfl⟩)
theorem isReason_spec (Fr : Nat → Prop) (w : World) (n : Int) : Tri Tryd.prog 36 [.int .i64 n] Fr w [] (fun v L => v = .bool (decide (1 ≤ n ∧ n ≤ 10)) ∧ L = []) := by
  refine Tri.of 9 Tryd.func36 rfl (by kernel_rfl) tabOk rfl rfl ?_
  (repeat (first | refine VC.seq ?_ | refine VC.region ?_ | refine VC.block ?_ | refine VC.label ?_ | refine VC.scope ?_ | refine VO.go (VO.nil ?_) | refine VO.go (VO.ld 0 rfl rfl rfl rfl ?_)))
  refine VO.go (VO.split 5 rfl rfl (fun h1 => ?_) (fun h1 => ?_))
  · have h1 := of_decide_eq_true h1
    (repeat (first | refine VC.seq ?_ | refine VC.region ?_ | refine VC.block ?_ | refine VC.label ?_ | refine VC.scope ?_ | refine VO.go (VO.nil ?_) | refine VO.go (VO.ld 0 rfl rfl rfl rfl ?_)))
    exact VC.ret (Ret.bool 2 rfl rfl (by simp [h1]) Ent.refl ⟨rfl, rfl⟩)
  · have h1 := of_decide_eq_false h1
    (repeat (first | refine VC.seq ?_ | refine VC.region ?_ | refine VC.block ?_ | refine VC.label ?_ | refine VC.scope ?_ | refine VO.go (VO.nil ?_) | refine VO.go (VO.ld 0 rfl rfl rfl rfl ?_)))
    exact VC.ret (Ret.bool 2 rfl rfl (by simp; omega) Ent.refl ⟨rfl, rfl⟩)
theorem get_spec (Fr : Nat → Prop) (w : World) {p q r : Nat} {M : MM} (h : MIn Fr w p M q r) (i : Nat) (hi : i < M.l.length) : Tri Tryd.prog 37 [.pointer (some ⟨p, 0, none⟩), .int .i64 i] Fr w [] (fun v L => v = .int .i64 (M.at_ i) ∧ L = []) := by
  have hb := h.box
  refine Tri.of 11 Tryd.func37 rfl (by kernel_rfl) tabOk rfl rfl ?_
  (repeat (first | refine VC.seq ?_ | refine VC.region ?_ | refine VC.block ?_ | refine VC.label ?_ | refine VC.scope ?_ | refine VO.go (VO.nil ?_) | refine VO.go (VO.load rfl rfl (RdL.blk hb rfl) ?_)))
  refine VO.go (VO.callV' (fun Fr w hF hs _ => Cnt.get_spec Fr w (h.cnt.of hF hs) i _ (MM.at_some hi)) rfl ?_)
  (repeat (first | refine VC.seq ?_ | refine VC.region ?_ | refine VC.block ?_ | refine VC.label ?_ | refine VC.scope ?_ | refine VO.go (VO.nil ?_) | refine VO.go (VO.ld 0 rfl rfl rfl rfl ?_)))
  exact VC.ret (Ret.tmp 4 rfl rfl Ent.refl ⟨rfl, rfl⟩)

section
variable (Fr : Nat → Prop) (w : World) {p : Nat} {M : MM} (hM : M.Ok) (hS : SatIn Fr [mtH p M] w)
include hM hS
theorem calls_spec (n : Int) : Tri Tryd.prog 13 [.pointer (some ⟨p, 0, none⟩), .int .i64 n] Fr w [] (fun v L => v = .int .i64 (M.calls n) ∧ L = []) := by
  obtain ⟨q, r, h⟩ := MIn.sat hS
  have hl := hM.len
  have hc4 := hM.c4
  refine Tri.of 13 Tryd.func13 rfl (by kernel_rfl) tabOk rfl rfl ?_
  (repeat (first | refine VC.seq ?_ | refine VC.region ?_ | refine VC.block ?_ | refine VC.label ?_ | refine VC.scope ?_ | refine VO.go (VO.nil ?_) | refine VO.go (VO.ld 0 rfl rfl rfl rfl ?_)))
  refine VO.go (VO.callV' (fun Fr w hF hs _ => isClass_spec Fr w (h.of hF hs) n) rfl ?_)
  (repeat (first | refine VC.seq ?_ | refine VC.region ?_ | refine VC.block ?_ | refine VC.label ?_ | refine VC.scope ?_ | refine VO.go (VO.nil ?_) | refine VO.go (VO.ld 0 rfl rfl rfl rfl ?_)))
  refine VC.condN rfl (fun h1 => ?_) (fun h1 => VC.skip ?_)
  · have h1 := of_decide_eq_false h1
    (repeat (first | refine VC.seq ?_ | refine VC.region ?_ | refine VC.block ?_ | refine VC.label ?_ | refine VC.scope ?_ | refine VO.go (VO.nil ?_) | refine VO.go (VO.ld 0 rfl rfl rfl rfl ?_)))
    exact VC.ret (Ret.int 4 rfl rfl (by simp [MM.calls, h1]) Ent.refl ⟨rfl, rfl⟩)
  · have h1 := of_decide_eq_true h1
    obtain ⟨k, rfl⟩ := Int.eq_ofNat_of_zero_le h1.1
    (repeat (first | refine VC.seq ?_ | refine VC.region ?_ | refine VC.block ?_ | refine VC.label ?_ | refine VC.scope ?_ | refine VO.go (VO.nil ?_) | refine VO.go (VO.ld 0 rfl rfl rfl rfl ?_)))
    refine VO.go (VO.arith ((2 * k : Nat) : Int) rfl rfl (by dsimp only; rw [i64_in _ (by omega) (by omega)]; omega) ?_)
    refine VO.go (VO.callV' (fun Fr w hF hs _ => get_spec Fr w (h.of hF hs) (2 * k) (by omega)) rfl ?_)
    (repeat (first | refine VC.seq ?_ | refine VC.region ?_ | refine VC.block ?_ | refine VC.label ?_ | refine VC.scope ?_ | refine VO.go (VO.nil ?_) | refine VO.go (VO.ld 0 rfl rfl rfl rfl ?_)))
    exact VC.ret (Ret.int 4 rfl rfl (by simp [MM.calls, h1]) Ent.refl ⟨rfl, rfl⟩)
theorem bytes_spec (n : Int) : Tri Tryd.prog 14 [.pointer (some ⟨p, 0, none⟩), .int .i64 n] Fr w [] (fun v L => v = .int .i64 (M.bytes n) ∧ L = []) := by
  obtain ⟨q, r, h⟩ := MIn.sat hS
  have hl := hM.len
  have hc4 := hM.c4
  refine Tri.of 14 Tryd.func14 rfl (by kernel_rfl) tabOk rfl rfl ?_
  (repeat (first | refine VC.seq ?_ | refine VC.region ?_ | refine VC.block ?_ | refine VC.label ?_ | refine VC.scope ?_ | refine VO.go (VO.nil ?_) | refine VO.go (VO.ld 0 rfl rfl rfl rfl ?_)))
  refine VO.go (VO.callV' (fun Fr w hF hs _ => isClass_spec Fr w (h.of hF hs) n) rfl ?_)
  (repeat (first | refine VC.seq ?_ | refine VC.region ?_ | refine VC.block ?_ | refine VC.label ?_ | refine VC.scope ?_ | refine VO.go (VO.nil ?_) | refine VO.go (VO.ld 0 rfl rfl rfl rfl ?_)))
  refine VC.condN rfl (fun h1 => ?_) (fun h1 => VC.skip ?_)
  · have h1 := of_decide_eq_false h1
    (repeat (first | refine VC.seq ?_ | refine VC.region ?_ | refine VC.block ?_ | refine VC.label ?_ | refine VC.scope ?_ | refine VO.go (VO.nil ?_) | refine VO.go (VO.ld 0 rfl rfl rfl rfl ?_)))
    exact VC.ret (Ret.int 4 rfl rfl (by simp [MM.bytes, h1]) Ent.refl ⟨rfl, rfl⟩)
  · have h1 := of_decide_eq_true h1
    obtain ⟨k, rfl⟩ := Int.eq_ofNat_of_zero_le h1.1
    (repeat (first | refine VC.seq ?_ | refine VC.region ?_ | refine VC.block ?_ | refine VC.label ?_ | refine VC.scope ?_ | refine VO.go (VO.nil ?_) | refine VO.go (VO.ld 0 rfl rfl rfl rfl ?_)))
    refine VO.go (VO.mul rfl rfl (by omega) (by omega) ?_)
    refine VO.go (VO.arith ((2 * k + 1 : Nat) : Int) rfl rfl (by dsimp only; rw [i64_in _ (by omega) (by omega)]; omega) ?_)
    refine VO.go (VO.callV' (fun Fr w hF hs _ => get_spec Fr w (h.of hF hs) (2 * k + 1) (by omega)) rfl ?_)
    (repeat (first | refine VC.seq ?_ | refine VC.region ?_ | refine VC.block ?_ | refine VC.label ?_ | refine VC.scope ?_ | refine VO.go (VO.nil ?_) | refine VO.go (VO.ld 0 rfl rfl rfl rfl ?_)))
    exact VC.ret (Ret.int 4 rfl rfl (by simp [MM.bytes, h1]) Ent.refl ⟨rfl, rfl⟩)
theorem replies_spec : Tri Tryd.prog 18 [.pointer (some ⟨p, 0, none⟩)] Fr w [] (fun v L => v = .int .i64 M.replies ∧ L = []) := by
  obtain ⟨q, r, h⟩ := MIn.sat hS
  have hb := h.box
  have hl := hM.len
  have hc4 := hM.c4
  refine Tri.of 13 Tryd.func18 rfl (by kernel_rfl) tabOk rfl rfl ?_
  (repeat (first | refine VC.seq ?_ | refine VC.region ?_ | refine VC.block ?_ | refine VC.label ?_ | refine VC.scope ?_ | refine VO.go (VO.nil ?_) | refine VO.go (VO.ld 0 rfl rfl rfl rfl ?_)))
  refine VO.go (VO.callV' (fun Fr w hF hs _ => made_spec Fr w (hb.of hF hs)) rfl ?_)
  (repeat (first | refine VC.seq ?_ | refine VC.region ?_ | refine VC.block ?_ | refine VC.label ?_ | refine VC.scope ?_ | refine VO.go (VO.nil ?_) | refine VO.go (VO.ld 0 rfl rfl rfl rfl ?_)))
  refine VC.condF rfl (VC.skip ?_)
  (repeat (first | refine VC.seq ?_ | refine VC.region ?_ | refine VC.block ?_ | refine VC.label ?_ | refine VC.scope ?_ | refine VO.go (VO.nil ?_) | refine VO.go (VO.load rfl rfl (RdL.blk hb rfl) ?_)))
  refine VO.go (VO.arith ((2 * M.c : Nat) : Int) rfl rfl (by dsimp only; rw [i64_in _ (by omega) (by omega)]; omega) ?_)
  refine VO.go (VO.callV' (fun Fr w hF hs _ => get_spec Fr w (h.of hF hs) (2 * M.c) (by omega)) rfl ?_)
  (repeat (first | refine VC.seq ?_ | refine VC.region ?_ | refine VC.block ?_ | refine VC.label ?_ | refine VC.scope ?_ | refine VO.go (VO.nil ?_) | refine VO.go (VO.ld 0 rfl rfl rfl rfl ?_)))
  exact VC.ret (Ret.int 2 rfl rfl rfl Ent.refl ⟨rfl, rfl⟩)
theorem refused_spec (n : Int) : Tri Tryd.prog 15 [.pointer (some ⟨p, 0, none⟩), .int .i64 n] Fr w [] (fun v L => v = .int .i64 (M.refused n) ∧ L = []) := by
  obtain ⟨q, r, h⟩ := MIn.sat hS
  have hb := h.box
  have hl := hM.len
  have hc4 := hM.c4
  refine Tri.of 22 Tryd.func15 rfl (by kernel_rfl) tabOk rfl rfl ?_
  (repeat (first | refine VC.seq ?_ | refine VC.region ?_ | refine VC.block ?_ | refine VC.label ?_ | refine VC.scope ?_ | refine VO.go (VO.nil ?_) | refine VO.go (VO.ld 0 rfl rfl rfl rfl ?_)))
  refine VO.go (VO.callV' (fun Fr w hF hs _ => made_spec Fr w (hb.of hF hs)) rfl ?_)
  (repeat (first | refine VC.seq ?_ | refine VC.region ?_ | refine VC.block ?_ | refine VC.label ?_ | refine VC.scope ?_ | refine VO.go (VO.nil ?_) | refine VO.go (VO.ld 0 rfl rfl rfl rfl ?_)))
  refine VO.go (VO.yes 8 false rfl rfl ?_)
  (repeat (first | refine VC.seq ?_ | refine VC.region ?_ | refine VC.block ?_ | refine VC.label ?_ | refine VC.scope ?_ | refine VO.go (VO.nil ?_) | refine VO.go (VO.ld 0 rfl rfl rfl rfl ?_)))
  refine VO.go (VO.callV' (fun Fr w hF hs _ => isReason_spec Fr w n) rfl ?_)
  (repeat (first | refine VC.seq ?_ | refine VC.region ?_ | refine VC.block ?_ | refine VC.label ?_ | refine VC.scope ?_ | refine VO.go (VO.nil ?_) | refine VO.go (VO.ld 0 rfl rfl rfl rfl ?_)))
  refine VC.condN rfl (fun h1 => ?_) (fun h1 => VC.skip ?_)
  · have h1 := of_decide_eq_false h1
    (repeat (first | refine VC.seq ?_ | refine VC.region ?_ | refine VC.block ?_ | refine VC.label ?_ | refine VC.scope ?_ | refine VO.go (VO.nil ?_) | refine VO.go (VO.ld 0 rfl rfl rfl rfl ?_)))
    exact VC.ret (Ret.int 4 rfl rfl (by simp only [MM.refused, if_neg h1]) Ent.refl ⟨rfl, rfl⟩)
  · have h1 := of_decide_eq_true h1
    obtain ⟨k, rfl⟩ := Int.eq_ofNat_of_zero_le (show 0 ≤ n by omega)
    (repeat (first | refine VC.seq ?_ | refine VC.region ?_ | refine VC.block ?_ | refine VC.label ?_ | refine VC.scope ?_ | refine VO.go (VO.nil ?_) | refine VO.go (VO.load rfl rfl (RdL.blk hb rfl) ?_)))
    refine VO.go (VO.mul rfl rfl (by omega) (by omega) ?_)
    (repeat (first | refine VC.seq ?_ | refine VC.region ?_ | refine VC.block ?_ | refine VC.label ?_ | refine VC.scope ?_ | refine VO.go (VO.nil ?_) | refine VO.go (VO.ld 0 rfl rfl rfl rfl ?_)))
    refine VO.go (VO.arith ((2 * M.c + k : Nat) : Int) rfl rfl (by dsimp only; rw [i64_in _ (by omega) (by omega)]; omega) ?_)
    refine VO.go (VO.callV' (fun Fr w hF hs _ => get_spec Fr w (h.of hF hs) (2 * M.c + k) (by omega)) rfl ?_)
    (repeat (first | refine VC.seq ?_ | refine VC.region ?_ | refine VC.block ?_ | refine VC.label ?_ | refine VC.scope ?_ | refine VO.go (VO.nil ?_) | refine VO.go (VO.ld 0 rfl rfl rfl rfl ?_)))
    exact VC.ret (Ret.int 4 rfl rfl (by simp only [MM.refused, if_pos h1]; rfl) Ent.refl ⟨rfl, rfl⟩)
set_option maxRecDepth 100000 in
theorem share_spec (n : Int) : Tri Tryd.prog 16 [.pointer (some ⟨p, 0, none⟩), .int .i64 n] Fr w [] (fun v L => v = .int .i64 (M.share n) ∧ L = []) := by
  obtain ⟨q, r, h⟩ := MIn.sat hS
  have hb := h.box
  have hl := hM.len
  have hc4 := hM.c4
  refine Tri.of 32 Tryd.func16 rfl (by kernel_rfl) tabOk rfl rfl ?_
  (repeat (first | refine VC.seq ?_ | refine VC.region ?_ | refine VC.block ?_ | refine VC.label ?_ | refine VC.scope ?_ | refine VO.go (VO.nil ?_) | refine VO.go (VO.ld 0 rfl rfl rfl rfl ?_)))
  refine VO.go (VO.callV' (fun Fr w hF hs _ => isClass_spec Fr w (h.of hF hs) n) rfl ?_)
  (repeat (first | refine VC.seq ?_ | refine VC.region ?_ | refine VC.block ?_ | refine VC.label ?_ | refine VC.scope ?_ | refine VO.go (VO.nil ?_) | refine VO.go (VO.ld 0 rfl rfl rfl rfl ?_)))
  refine VC.condN rfl (fun h1 => ?_) (fun h1 => VC.skip ?_)
  · have h1 := of_decide_eq_false h1
    (repeat (first | refine VC.seq ?_ | refine VC.region ?_ | refine VC.block ?_ | refine VC.label ?_ | refine VC.scope ?_ | refine VO.go (VO.nil ?_) | refine VO.go (VO.ld 0 rfl rfl rfl rfl ?_)))
    exact VC.ret (Ret.int 4 rfl rfl (by simp only [MM.share, if_neg h1]) Ent.refl ⟨rfl, rfl⟩)
  have h1 := of_decide_eq_true h1
  (repeat (first | refine VC.seq ?_ | refine VC.region ?_ | refine VC.block ?_ | refine VC.label ?_ | refine VC.scope ?_ | refine VO.go (VO.nil ?_) | refine VO.go (VO.ld 0 rfl rfl rfl rfl ?_)))
  refine VC.loop (σ := Nat) (fun i => [(0, .pointer (some ⟨p, 0, none⟩)), (1, .int .i64 n), (5, .int .i64 (M.sum i)), (6, .int .i64 i)]) (fun _ => []) (fun i => i ≤ M.c) (fun i => M.c - i) 0 (Nat.zero_le _) (Sub.cons rfl (Sub.cons rfl (Sub.cons rfl (Sub.cons rfl (Sub.nil _))))) Ent.refl ?_
  intro i hi
  (repeat (first | refine VC.seq ?_ | refine VC.region ?_ | refine VC.block ?_ | refine VC.label ?_ | refine VC.scope ?_ | refine VO.go (VO.nil ?_) | refine VO.go (VO.load rfl rfl (RdL.blk hb rfl) ?_)))
  have hs1 := hM.sum i
  have hb1 := hM.bytes i
  refine VC.condP rfl (fun h2 => VC.skip ?_) (fun h2 => VC.exit ?_)
  · (repeat (first | refine VC.seq ?_ | refine VC.region ?_ | refine VC.block ?_ | refine VC.label ?_ | refine VC.scope ?_ | refine VO.go (VO.nil ?_) | refine VO.go (VO.ld 0 rfl rfl rfl rfl ?_)))
    refine VO.go (VO.callV' (fun Fr w hF hs _ => bytes_spec Fr w hM (hS.of hF hs) i) rfl ?_)
    refine VO.go (VO.callV' (fun Fr w hF hs _ => nadd_spec Fr w (M.sum i) (M.bytes i) (by omega) (by omega) (by omega) (by omega)) rfl ?_)
    (repeat (first | refine VC.seq ?_ | refine VC.region ?_ | refine VC.block ?_ | refine VC.label ?_ | refine VC.scope ?_ | refine VO.go (VO.nil ?_) | refine VO.go (VO.ld 0 rfl rfl rfl rfl ?_)))
    refine VO.go (VO.add rfl rfl (by omega) (by omega) ?_)
    (repeat (first | refine VC.seq ?_ | refine VC.region ?_ | refine VC.block ?_ | refine VC.label ?_ | refine VC.scope ?_ | refine VO.go (VO.nil ?_) | refine VO.go (VO.ld 0 rfl rfl rfl rfl ?_)))
    exact ⟨i + 1, by show i + 1 ≤ M.c; omega, by dsimp only; omega, Sub.cons rfl (Sub.cons rfl (Sub.cons rfl (Sub.cons rfl (Sub.nil _)))), Ent.refl⟩
  · have hic : i = M.c := by omega
    subst hic
    (repeat (first | refine VC.seq ?_ | refine VC.region ?_ | refine VC.block ?_ | refine VC.label ?_ | refine VC.scope ?_ | refine VO.go (VO.nil ?_) | refine VO.go (VO.ld 0 rfl rfl rfl rfl ?_)))
    refine VC.condE rfl (fun h3 => ?_) (fun h3 => VC.skip ?_)
    · (repeat (first | refine VC.seq ?_ | refine VC.region ?_ | refine VC.block ?_ | refine VC.label ?_ | refine VC.scope ?_ | refine VO.go (VO.nil ?_) | refine VO.go (VO.ld 0 rfl rfl rfl rfl ?_)))
      exact VC.ret (Ret.int 4 rfl rfl (by simp only [MM.share, if_pos h1, if_pos h3]) Ent.refl ⟨rfl, rfl⟩)
    · have hn := hM.bytes n
      have hq : 0 ≤ M.bytes n * 100 / M.sum M.c := Int.ediv_nonneg (by omega) (by omega)
      have hq2 : M.bytes n * 100 / M.sum M.c ≤ M.bytes n * 100 := Int.ediv_le_self _ (by omega)
      (repeat (first | refine VC.seq ?_ | refine VC.region ?_ | refine VC.block ?_ | refine VC.label ?_ | refine VC.scope ?_ | refine VO.go (VO.nil ?_) | refine VO.go (VO.ld 0 rfl rfl rfl rfl ?_)))
      refine VO.go (VO.callV' (fun Fr w hF hs _ => bytes_spec Fr w hM (hS.of hF hs) n) rfl ?_)
      refine VO.go (VO.callV' (fun Fr w hF hs _ => nmul_spec Fr w (M.bytes n) (by omega) (by omega)) rfl ?_)
      (repeat (first | refine VC.seq ?_ | refine VC.region ?_ | refine VC.block ?_ | refine VC.label ?_ | refine VC.scope ?_ | refine VO.go (VO.nil ?_) | refine VO.go (VO.ld 0 rfl rfl rfl rfl ?_)))
      refine VO.go (VO.light (light_quo (M.bytes n * 100 / M.sum M.c) rfl rfl (by omega) (by omega) (i64_in _ (by omega) (by omega))) ?_)
      (repeat (first | refine VC.seq ?_ | refine VC.region ?_ | refine VC.block ?_ | refine VC.label ?_ | refine VC.scope ?_ | refine VO.go (VO.nil ?_) | refine VO.go (VO.ld 0 rfl rfl rfl rfl ?_)))
      exact VC.ret (Ret.int 4 rfl rfl (by simp only [MM.share, if_pos h1, if_neg h3]) Ent.refl ⟨rfl, rfl⟩)
end
end Go.Proofs.YtoinocihlfmnnaaDoor.Met
