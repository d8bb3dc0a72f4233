/- Counters: made, added to, read, copied. No condition but that no counter is great. -/
import Derived.Test.YtoinocihlfmnnaaDoorRef09
import Derived.Test.YtoinocihlfmnnaaDoorLib
namespace Go.Proofs.YtoinocihlfmnnaaDoor.Cnt
open Go Go.Proofs.YtoinocihlfmnnaaDoor.Vg Go.Proofs.YtoinocihlfmnnaaDoor.T Go.Proofs.YtoinocihlfmnnaaDoor.Api
set_option linter.unusedSimpArgs false
set_option linter.unusedVariables false
attribute [local irreducible] VO VC VA

def iv (l : List Int) : List Value := l.map fun x => .int .i64 x
theorem iv_at {l : List Int} {i : Nat} {x : Int} (h : l[i]? = some x) : (iv l)[0 + i * 1]? = some (.int .i64 x) := by simp [iv, h]
theorem iv_set (l : List Int) (i : Nat) (x : Int) : (iv l).set (0 + i * 1) (.int .i64 x) = iv (l.set i x) := by simp [iv, List.map_set]
theorem iv_len (l : List Int) : (iv l).length = l.length := by simp [iv]
theorem iv_zero (n : Nat) : (List.replicate n [Value.int .i64 0]).flatten = iv (List.replicate n 0) := by
  simp [iv, List.flatten_replicate_singleton]

theorem ext_load : Ext Tryd.prog 76 Tryd.f76 (Extern.Atomic.loadT (.int .i64)) := ⟨Tryd.func76, by kernel_rfl, by kernel_rfl, by kernel_rfl, by kernel_rfl⟩
theorem ext_cas : Ext Tryd.prog 77 Tryd.f77 (Extern.Atomic.casT (.int .i64)) := ⟨Tryd.func77, by kernel_rfl, by kernel_rfl, by kernel_rfl, by kernel_rfl⟩
theorem ext_store : Ext Tryd.prog 82 Tryd.f82 Extern.Atomic.storeT := ⟨Tryd.func82, by kernel_rfl, by kernel_rfl, by kernel_rfl, by kernel_rfl⟩

theorem load_spec (Fr : Nat → Prop) (w : World) {b off : Nat} {cs : List Value} {n : Int} (hB : Blk Fr w b cs) (hc : cs[off]? = some (.int .i64 n)) :
    Tri Tryd.prog 61 [.pointer (some ⟨b, off, none⟩)] Fr w [] (fun v L => v = .int .i64 n ∧ L = []) := by
  refine Tri.of 7 Tryd.func61 rfl (by kernel_rfl) tabOk rfl rfl ?_
  (repeat (first | refine VC.seq ?_ | refine VC.region ?_ | refine VC.block ?_ | refine VC.label ?_ | refine VC.scope ?_ | refine VO.go (VO.nil ?_) | refine VO.go (VO.ld 0 rfl rfl rfl rfl ?_)))
  refine VO.go (VO.op rfl rfl rfl (OpT.aLoad ext_load rfl (fun w hw => RdL.blk (ti := T.t2) hB hc rfl w hw)) ?_)
  rintro _ _ ⟨rfl, rfl⟩
  (repeat (first | refine VC.seq ?_ | refine VC.region ?_ | refine VC.block ?_ | refine VC.label ?_ | refine VC.scope ?_ | refine VO.go (VO.nil ?_) | refine VO.go (VO.ld 0 rfl rfl rfl rfl ?_)))
  exact VC.ret (Ret.tmp 2 rfl rfl Ent.refl ⟨rfl, rfl⟩)
theorem cas_spec (Fr : Nat → Prop) (w : World) {b off t : Nat} {cs : List Value} {n m : Int} (hc : cs[off]? = some (.int .i64 n)) :
    Tri Tryd.prog 62 [.pointer (some ⟨b, off, none⟩), .int .i64 n, .int .i64 m] Fr w [pt b cs t] (fun v L => v = .bool true ∧ L = [pt b (cs.set off (.int .i64 m)) t]) := by
  refine Tri.of 13 Tryd.func62 rfl (by kernel_rfl) tabOk rfl rfl ?_
  (repeat (first | refine VC.seq ?_ | refine VC.region ?_ | refine VC.block ?_ | refine VC.label ?_ | refine VC.scope ?_ | refine VO.go (VO.nil ?_) | refine VO.go (VO.ld 0 rfl rfl rfl rfl ?_)))
  refine VO.go (VO.op rfl rfl rfl (OpT.aCas 0 ext_cas rfl rfl rfl rfl hc) ?_)
  rintro _ _ ⟨rfl, rfl⟩
  (repeat (first | refine VC.seq ?_ | refine VC.region ?_ | refine VC.block ?_ | refine VC.label ?_ | refine VC.scope ?_ | refine VO.go (VO.nil ?_) | refine VO.go (VO.ld 0 rfl rfl rfl rfl ?_)))
  exact VC.ret (Ret.tmp 6 rfl rfl Ent.refl ⟨rfl, rfl⟩)
theorem store_spec (Fr : Nat → Prop) (w : World) {b off t : Nat} {cs : List Value} {u : Value} {m : Int} (hc : cs[off]? = some u) :
    Tri Tryd.prog 69 [.pointer (some ⟨b, off, none⟩), .int .i64 m] Fr w [pt b cs t] (fun v L => v = .tuple #[] ∧ L = [pt b (cs.set off (.int .i64 m)) t]) := by
  refine Tri.of 9 Tryd.func69 rfl (by kernel_rfl) tabOk rfl rfl ?_
  (repeat (first | refine VC.seq ?_ | refine VC.region ?_ | refine VC.block ?_ | refine VC.label ?_ | refine VC.scope ?_ | refine VO.go (VO.nil ?_) | refine VO.go (VO.ld 0 rfl rfl rfl rfl ?_)))
  refine VO.go (VO.op rfl rfl rfl (OpT.aStore 0 ext_store rfl rfl rfl hc) ?_)
  rintro _ _ ⟨rfl, rfl⟩
  (repeat (first | refine VC.seq ?_ | refine VC.region ?_ | refine VC.block ?_ | refine VC.label ?_ | refine VC.scope ?_ | refine VO.go (VO.nil ?_) | refine VO.go (VO.ld 0 rfl rfl rfl rfl ?_)))
  exact Ret.void rfl Ent.refl ⟨rfl, rfl⟩

/-- Counters, where they stay. -/
structure CIn (Fr : Nat → Prop) (w : World) (q : Nat) (l : List Int) (r : Nat) : Prop where
  box : Blk Fr w q [.slice (some ⟨r, 0, none⟩) l.length l.length]
  row : Blk Fr w r (iv l)
theorem CIn.of {X : Cx} {q r : Nat} {l : List Int} (h : CIn X.Fr X.w0 q l r) {Fr' : Nat → Prop} (hF : ∀ b, X.Fr b → Fr' b) {w : World} {L : List HP} (hw : St X L w) : CIn Fr' w q l r := ⟨h.box.of hF hw, h.row.of hF hw⟩

theorem none_spec (Fr : Nat → Prop) (w : World) {q r n c : Nat} (hb : Blk Fr w q [.slice (some ⟨r, 0, none⟩) n c]) : Tri Tryd.prog 60 [.pointer (some ⟨q, 0, none⟩)] Fr w [] (fun v L => v = .bool false ∧ L = []) := by
  refine Tri.of 12 Tryd.func60 rfl (by kernel_rfl) tabOk rfl rfl ?_
  (repeat (first | refine VC.seq ?_ | refine VC.region ?_ | refine VC.block ?_ | refine VC.label ?_ | refine VC.scope ?_ | refine VO.go (VO.nil ?_) | refine VO.go (VO.ld 0 rfl rfl rfl rfl ?_)))
  refine VO.go (VO.yes 5 false rfl rfl ?_)
  (repeat (first | refine VC.seq ?_ | refine VC.region ?_ | refine VC.block ?_ | refine VC.label ?_ | refine VC.scope ?_ | refine VO.go (VO.nil ?_) | refine VO.go (VO.load rfl rfl (RdL.blk hb rfl) ?_)))
  exact VC.ret (Ret.tmp 2 rfl rfl Ent.refl ⟨rfl, rfl⟩)

theorem get_spec (Fr : Nat → Prop) (w : World) {q r : Nat} {l : List Int} (h : CIn Fr w q l r) (i : Nat) (x : Int) (hx : l[i]? = some x) :
    Tri Tryd.prog 64 [.pointer (some ⟨q, 0, none⟩), .int .i64 i] Fr w [] (fun v L => v = .int .i64 x ∧ L = []) := by
  have hi := (List.getElem?_eq_some_iff.1 hx).1
  have hb := h.box
  refine Tri.of 27 Tryd.func64 rfl (by kernel_rfl) tabOk rfl rfl ?_
  (repeat (first | refine VC.seq ?_ | refine VC.region ?_ | refine VC.block ?_ | refine VC.label ?_ | refine VC.scope ?_ | refine VO.go (VO.nil ?_) | refine VO.go (VO.ld 0 rfl rfl rfl rfl ?_)))
  refine VO.go (VO.callV' (fun Fr w hF hs _ => none_spec Fr w (hb.of hF hs)) rfl ?_)
  (repeat (first | refine VC.seq ?_ | refine VC.region ?_ | refine VC.block ?_ | refine VC.label ?_ | refine VC.scope ?_ | refine VO.go (VO.nil ?_) | refine VO.go (VO.ld 0 rfl rfl rfl rfl ?_)))
  refine VO.go (VO.yes 7 false rfl rfl ?_)
  (repeat (first | refine VC.seq ?_ | refine VC.region ?_ | refine VC.block ?_ | refine VC.label ?_ | refine VC.scope ?_ | refine VO.go (VO.nil ?_) | refine VO.go (VO.ld 0 rfl rfl rfl rfl ?_)))
  refine VO.go (VO.yes 11 false rfl (decide_eq_false (by omega)) ?_)
  (repeat (first | refine VC.seq ?_ | refine VC.region ?_ | refine VC.block ?_ | refine VC.label ?_ | refine VC.scope ?_ | refine VO.go (VO.nil ?_) | refine VO.go (VO.load rfl rfl (RdL.blk hb rfl) ?_)))
  refine VC.condF (congrArg (fun b => some (Value.bool b)) (decide_eq_false (by omega))) (VC.skip ?_)
  (repeat (first | refine VC.seq ?_ | refine VC.region ?_ | refine VC.block ?_ | refine VC.label ?_ | refine VC.scope ?_ | refine VO.go (VO.nil ?_) | refine VO.go (VO.load rfl rfl (RdL.blk hb rfl) ?_)))
  refine VO.go (VO.light (light_idx i rfl rfl rfl rfl rfl rfl hi) ?_)
  refine VO.go (VO.callV' (fun Fr w hF hs _ => load_spec Fr w (h.row.of hF hs) (iv_at hx)) rfl ?_)
  (repeat (first | refine VC.seq ?_ | refine VC.region ?_ | refine VC.block ?_ | refine VC.label ?_ | refine VC.scope ?_ | refine VO.go (VO.nil ?_) | refine VO.go (VO.ld 0 rfl rfl rfl rfl ?_)))
  exact VC.ret (Ret.tmp 4 rfl rfl Ent.refl ⟨rfl, rfl⟩)

theorem add_spec (Fr : Nat → Prop) (w : World) {q r : Nat} {l : List Int} (hb : Blk Fr w q [.slice (some ⟨r, 0, none⟩) l.length l.length]) (i : Nat) (x y : Int) (hx : l[i]? = some x) (hx0 : 0 ≤ x) (hx1 : x ≤ 1000000000) (hy0 : 0 ≤ y) (hy1 : y ≤ 1000000000) :
    Tri Tryd.prog 34 [.pointer (some ⟨q, 0, none⟩), .int .i64 i, .int .i64 y] Fr w [pt r (iv l) 118] (fun v L => v = .tuple #[.int .i64 (x + y), .int .i64 0] ∧ L = [pt r (iv (l.set i (x + y))) 118]) := by
  have hi := (List.getElem?_eq_some_iff.1 hx).1
  refine Tri.of 51 Tryd.func34 rfl (by kernel_rfl) tabOk rfl rfl ?_
  (repeat (first | refine VC.seq ?_ | refine VC.region ?_ | refine VC.block ?_ | refine VC.label ?_ | refine VC.scope ?_ | refine VO.go (VO.nil ?_) | refine VO.go (VO.ld 0 rfl rfl rfl rfl ?_)))
  refine VO.go (VO.callV' (fun Fr w hF hs _ => none_spec Fr w (hb.of hF hs)) rfl ?_)
  (repeat (first | refine VC.seq ?_ | refine VC.region ?_ | refine VC.block ?_ | refine VC.label ?_ | refine VC.scope ?_ | refine VO.go (VO.nil ?_) | refine VO.go (VO.ld 0 rfl rfl rfl rfl ?_)))
  refine VC.condF rfl ?_
  (repeat (first | refine VC.seq ?_ | refine VC.region ?_ | refine VC.block ?_ | refine VC.label ?_ | refine VC.scope ?_ | refine VO.go (VO.nil ?_) | refine VO.go (VO.ld 0 rfl rfl rfl rfl ?_)))
  refine VC.condF (congrArg (fun b => some (Value.bool b)) (decide_eq_false (by omega))) ?_
  (repeat (first | refine VC.seq ?_ | refine VC.region ?_ | refine VC.block ?_ | refine VC.label ?_ | refine VC.scope ?_ | refine VO.go (VO.nil ?_) | refine VO.go (VO.ld 0 rfl rfl rfl rfl ?_)))
  refine VO.go (VO.yes 19 false rfl (decide_eq_false (by omega)) ?_)
  (repeat (first | refine VC.seq ?_ | refine VC.region ?_ | refine VC.block ?_ | refine VC.label ?_ | refine VC.scope ?_ | refine VO.go (VO.nil ?_) | refine VO.go (VO.load rfl rfl (RdL.blk hb rfl) ?_)))
  refine VC.condF (congrArg (fun b => some (Value.bool b)) (decide_eq_false (by omega))) (VC.skip ?_)
  refine VC.block ?_
  refine VC.loop (σ := Unit) (fun _ => [(0, .pointer (some ⟨q, 0, none⟩)), (1, .int .i64 i), (2, .int .i64 y)]) (fun _ => [pt r (iv l) 118]) (fun _ => True) (fun _ => 0) () trivial (Sub.cons rfl (Sub.cons rfl (Sub.cons rfl (Sub.nil _)))) Ent.refl ?_
  intro _ _
  (repeat (first | refine VC.seq ?_ | refine VC.region ?_ | refine VC.block ?_ | refine VC.label ?_ | refine VC.scope ?_ | refine VO.go (VO.nil ?_) | refine VO.go (VO.load rfl rfl (RdL.blk hb rfl) ?_)))
  refine VO.go (VO.light (light_idx i rfl rfl rfl rfl rfl rfl hi) ?_)
  refine VO.go (VO.callV' (fun Fr w hF hs hS => load_spec Fr w (hS.blk 0 rfl) (iv_at hx)) rfl ?_)
  (repeat (first | refine VC.seq ?_ | refine VC.region ?_ | refine VC.block ?_ | refine VC.label ?_ | refine VC.scope ?_ | refine VO.go (VO.nil ?_) | refine VO.go (VO.ld 0 rfl rfl rfl rfl ?_)))
  refine VO.go (VO.sub' rfl rfl (by omega) (by omega) ?_)
  (repeat (first | refine VC.seq ?_ | refine VC.region ?_ | refine VC.block ?_ | refine VC.label ?_ | refine VC.scope ?_ | refine VO.go (VO.nil ?_) | refine VO.go (VO.ld 0 rfl rfl rfl rfl ?_)))
  refine VO.go (VO.add (b := y) rfl (by dsimp only [ev, look]; rw [if_neg (by omega)]; rfl) (by omega) (by omega) ?_)
  (repeat (first | refine VC.seq ?_ | refine VC.region ?_ | refine VC.block ?_ | refine VC.label ?_ | refine VC.scope ?_ | refine VO.go (VO.nil ?_) | refine VO.go (VO.load rfl rfl (RdL.blk hb rfl) ?_)))
  refine VO.go (VO.light (light_idx i rfl rfl rfl rfl rfl rfl hi) ?_)
  (repeat (first | refine VC.seq ?_ | refine VC.region ?_ | refine VC.block ?_ | refine VC.label ?_ | refine VC.scope ?_ | refine VO.go (VO.nil ?_) | refine VO.go (VO.ld 0 rfl rfl rfl rfl ?_)))
  refine VO.go (VO.callAt 0 rfl (fun Fr w hF hs _ => cas_spec Fr w (iv_at hx)) rfl (ψ := fun v H => v = .bool true ∧ H = pt r ((iv l).set (0 + i * 1) (.int .i64 (x + y))) 118) (fun v L h => ⟨_, h.2, h.1, rfl⟩) ?_)
  rintro _ _ ⟨rfl, rfl⟩
  (repeat (first | refine VC.seq ?_ | refine VC.region ?_ | refine VC.block ?_ | refine VC.label ?_ | refine VC.scope ?_ | refine VO.go (VO.nil ?_) | refine VO.go (VO.ld 0 rfl rfl rfl rfl ?_)))
  refine VC.condT rfl ?_
  (repeat (first | refine VC.seq ?_ | refine VC.region ?_ | refine VC.block ?_ | refine VC.label ?_ | refine VC.scope ?_ | refine VO.go (VO.nil ?_) | refine VO.go (VO.ld 0 rfl rfl rfl rfl ?_)))
  exact VC.ret (Ret.tmp2 6 7 rfl rfl rfl (Ent.of_eq (by rw [iv_set]; rfl)) ⟨rfl, rfl⟩)

def lim (n : Int) : Prop := 1 ≤ n ∧ n ≤ 64
theorem new_spec (Fr : Nat → Prop) (w : World) (n : Nat) (h1 : 1 ≤ n) (h2 : n ≤ 64) : Tri Tryd.prog 31 [.int .i64 n] Fr w []
    (fun v L => ∃ q r, v = .tuple #[.pointer (some ⟨q, 0, none⟩), .int .i64 0] ∧ L = [pt q [.slice (some ⟨r, 0, none⟩) n n] 113, pt r (iv (List.replicate n 0)) 118]) := by
  refine Tri.of 14 Tryd.func31 rfl (by kernel_rfl) tabOk rfl rfl ?_
  (repeat (first | refine VC.seq ?_ | refine VC.region ?_ | refine VC.block ?_ | refine VC.label ?_ | refine VC.scope ?_ | refine VO.go (VO.nil ?_) | refine VO.go (VO.ld 0 rfl rfl rfl rfl ?_)))
  refine VO.go (VO.yes 6 false rfl (decide_eq_false (by omega)) ?_)
  (repeat (first | refine VC.seq ?_ | refine VC.region ?_ | refine VC.block ?_ | refine VC.label ?_ | refine VC.scope ?_ | refine VO.go (VO.nil ?_) | refine VO.go (VO.ld 0 rfl rfl rfl rfl ?_)))
  refine VC.condF (congrArg (fun b => some (Value.bool b)) (decide_eq_false (by omega))) (VC.skip ?_)
  (repeat (first | refine VC.seq ?_ | refine VC.region ?_ | refine VC.block ?_ | refine VC.label ?_ | refine VC.scope ?_ | refine VO.go (VO.nil ?_) | refine VO.go (VO.ld 0 rfl rfl rfl rfl ?_)))
  refine VO.go (VO.makeSlice n rfl rfl rfl rfl rfl rfl rfl (by omega) (by show 8 * n ≤ _; omega) fun r => ?_)
  rw [show (List.replicate n T.t118.zs).flatten = iv (List.replicate n 0) from iv_zero n]
  refine VO.go (VO.light (light_build (pv := [(0, .slice (some ⟨r, 0, none⟩) n n)]) [.slice (some ⟨r, 0, none⟩) n n] rfl rfl rfl rfl rfl) ?_)
  refine VO.go (VO.boxA (vs := [.slice (some ⟨r, 0, none⟩) n n]) rfl fun q => ?_)
  (repeat (first | refine VC.seq ?_ | refine VC.region ?_ | refine VC.block ?_ | refine VC.label ?_ | refine VC.scope ?_ | refine VO.go (VO.nil ?_) | refine VO.go (VO.ld 0 rfl rfl rfl rfl ?_)))
  exact VC.ret (Ret.tmp2 2 3 rfl rfl rfl Ent.refl ⟨q, r, rfl, rfl⟩)

/-- The first ones, and zeros. -/
def part (l : List Int) (i : Nat) : List Int := l.take i ++ List.replicate (l.length - i) 0
theorem part_set {l : List Int} {i : Nat} {x : Int} (h : l[i]? = some x) : (part l i).set i x = part l (i + 1) := by
  have hi := (List.getElem?_eq_some_iff.1 h).1
  unfold part
  rw [show l.length - i = (l.length - (i + 1)) + 1 by omega, List.replicate_succ, List.set_append_right _ _ (by simp; omega), List.length_take, Nat.min_eq_left (by omega), Nat.sub_self, List.set_cons_zero, List.take_add_one, h]
  simp
theorem part_at {l : List Int} {i : Nat} (hi : i < l.length) : (part l i)[i]? = some 0 := by
  unfold part
  rw [List.getElem?_append_right (by simp; omega), List.length_take, Nat.min_eq_left (by omega), Nat.sub_self, List.getElem?_replicate, if_pos (by omega)]
theorem part_len {l : List Int} {i : Nat} (hi : i ≤ l.length) : (part l i).length = l.length := by simp [part]; omega
theorem part_zero (l : List Int) : part l 0 = List.replicate l.length 0 := by simp [part]
theorem part_all (l : List Int) : part l l.length = l := by simp [part]
set_option maxRecDepth 100000 in
theorem list_spec (Fr : Nat → Prop) (w : World) {q r : Nat} {l : List Int} (h : CIn Fr w q l r) (hl : l.length ≤ 64) : Tri Tryd.prog 68 [.pointer (some ⟨q, 0, none⟩)] Fr w []
    (fun v L => ∃ b, v = .slice (some ⟨b, 0, none⟩) l.length l.length ∧ L = [pt b (iv l) 2]) := by
  have hb := h.box
  refine Tri.of 30 Tryd.func68 rfl (by kernel_rfl) tabOk rfl rfl ?_
  (repeat (first | refine VC.seq ?_ | refine VC.region ?_ | refine VC.block ?_ | refine VC.label ?_ | refine VC.scope ?_ | refine VO.go (VO.nil ?_) | refine VO.go (VO.ld 0 rfl rfl rfl rfl ?_)))
  refine VO.go (VO.callV' (fun Fr w hF hs _ => none_spec Fr w (hb.of hF hs)) rfl ?_)
  (repeat (first | refine VC.seq ?_ | refine VC.region ?_ | refine VC.block ?_ | refine VC.label ?_ | refine VC.scope ?_ | refine VO.go (VO.nil ?_) | refine VO.go (VO.ld 0 rfl rfl rfl rfl ?_)))
  refine VC.condF rfl (VC.skip ?_)
  (repeat (first | refine VC.seq ?_ | refine VC.region ?_ | refine VC.block ?_ | refine VC.label ?_ | refine VC.scope ?_ | refine VO.go (VO.nil ?_) | refine VO.go (VO.load rfl rfl (RdL.blk hb rfl) ?_)))
  refine VO.go (VO.makeSlice l.length rfl rfl rfl rfl rfl rfl rfl (by omega) (by show 8 * l.length ≤ _; omega) fun b => ?_)
  rw [show (List.replicate l.length T.t2.zs).flatten = iv (List.replicate l.length 0) from iv_zero _]
  (repeat (first | refine VC.seq ?_ | refine VC.region ?_ | refine VC.block ?_ | refine VC.label ?_ | refine VC.scope ?_ | refine VO.go (VO.nil ?_) | refine VO.go (VO.ld 0 rfl rfl rfl rfl ?_)))
  refine VC.loop (σ := Nat) (fun i => [(0, .pointer (some ⟨q, 0, none⟩)), (3, .slice (some ⟨b, 0, none⟩) l.length l.length), (14, .int .i64 l.length), (15, .int .i64 i)])
    (fun i => [pt b (iv (part l i)) 2]) (fun i => i ≤ l.length) (fun i => l.length - i) 0 (Nat.zero_le _) (Sub.cons rfl (Sub.cons rfl (Sub.cons rfl (Sub.cons rfl (Sub.nil _))))) (Ent.of_eq (by rw [part_zero])) ?_
  intro i hi
  (repeat (first | refine VC.seq ?_ | refine VC.region ?_ | refine VC.block ?_ | refine VC.label ?_ | refine VC.scope ?_ | refine VO.go (VO.nil ?_) | refine VO.go (VO.ld 0 rfl rfl rfl rfl ?_)))
  refine VC.condP rfl (fun h1 => ?_) (fun h1 => ?_)
  · have hi2 : i < l.length := by omega
    have hx := List.getElem?_eq_getElem hi2
    generalize l[i] = x at hx
    have hn : (iv (part l i)).set (0 + i * 1) (.int .i64 x) = iv (part l (i + 1)) := by rw [iv_set, part_set hx]
    refine VC.skip ?_
    (repeat (first | refine VC.seq ?_ | refine VC.region ?_ | refine VC.block ?_ | refine VC.label ?_ | refine VC.scope ?_ | refine VO.go (VO.nil ?_) | refine VO.go (VO.load rfl rfl (RdL.blk hb rfl) ?_)))
    refine VO.go (VO.light (light_idx i rfl rfl rfl rfl rfl rfl hi2) ?_)
    refine VO.go (VO.callV' (fun Fr w hF hs _ => load_spec Fr w (h.row.of hF hs) (iv_at hx)) rfl ?_)
    refine VO.go (VO.light (light_idx i rfl rfl rfl rfl rfl rfl hi2) ?_)
    refine VO.go (VO.st 0 rfl rfl rfl rfl (by rw [iv_len, part_len hi]; show 0 + i * 1 < _; omega) hn rfl ?_)
    (repeat (first | refine VC.seq ?_ | refine VC.region ?_ | refine VC.block ?_ | refine VC.label ?_ | refine VC.scope ?_ | refine VO.go (VO.nil ?_) | refine VO.go (VO.ld 0 rfl rfl rfl rfl ?_)))
    refine VO.go (VO.add rfl rfl (by omega) (by omega) ?_)
    (repeat (first | refine VC.seq ?_ | refine VC.region ?_ | refine VC.block ?_ | refine VC.label ?_ | refine VC.scope ?_ | refine VO.go (VO.nil ?_) | refine VO.go (VO.ld 0 rfl rfl rfl rfl ?_)))
    exact ⟨i + 1, hi2, by dsimp only; omega, Sub.cons rfl (Sub.cons rfl (Sub.cons rfl (Sub.cons rfl (Sub.nil _)))), Ent.refl⟩
  · have hi2 : i = l.length := by omega
    subst hi2
    refine VC.exit ?_
    (repeat (first | refine VC.seq ?_ | refine VC.region ?_ | refine VC.block ?_ | refine VC.label ?_ | refine VC.scope ?_ | refine VO.go (VO.nil ?_) | refine VO.go (VO.ld 0 rfl rfl rfl rfl ?_)))
    exact VC.ret (Ret.tmp 2 rfl rfl Ent.refl ⟨b, rfl, by rw [part_all]⟩)

set_option maxRecDepth 100000 in
theorem copy_spec (Fr : Nat → Prop) (w : World) {q r : Nat} {l : List Int} (h : CIn Fr w q l r) (hl : l.length ≤ 64) : Tri Tryd.prog 44 [.pointer (some ⟨q, 0, none⟩)] Fr w []
    (fun v L => ∃ q r, v = .pointer (some ⟨q, 0, none⟩) ∧ L = [pt q [.slice (some ⟨r, 0, none⟩) l.length l.length] 113, pt r (iv l) 118]) := by
  have hb := h.box
  refine Tri.of 34 Tryd.func44 rfl (by kernel_rfl) tabOk rfl rfl ?_
  (repeat (first | refine VC.seq ?_ | refine VC.region ?_ | refine VC.block ?_ | refine VC.label ?_ | refine VC.scope ?_ | refine VO.go (VO.nil ?_) | refine VO.go (VO.ld 0 rfl rfl rfl rfl ?_)))
  refine VO.go (VO.callV' (fun Fr w hF hs _ => none_spec Fr w (hb.of hF hs)) rfl ?_)
  (repeat (first | refine VC.seq ?_ | refine VC.region ?_ | refine VC.block ?_ | refine VC.label ?_ | refine VC.scope ?_ | refine VO.go (VO.nil ?_) | refine VO.go (VO.ld 0 rfl rfl rfl rfl ?_)))
  refine VC.condF rfl (VC.skip ?_)
  (repeat (first | refine VC.seq ?_ | refine VC.region ?_ | refine VC.block ?_ | refine VC.label ?_ | refine VC.scope ?_ | refine VO.go (VO.nil ?_) | refine VO.go (VO.load rfl rfl (RdL.blk hb rfl) ?_)))
  refine VO.go (VO.makeSlice l.length rfl rfl rfl rfl rfl rfl rfl (by omega) (by show 8 * l.length ≤ _; omega) fun b => ?_)
  rw [show (List.replicate l.length T.t118.zs).flatten = iv (List.replicate l.length 0) from iv_zero _]
  refine VO.go (VO.light (light_build (pv := [(0, .slice (some ⟨b, 0, none⟩) l.length l.length)]) [.slice (some ⟨b, 0, none⟩) l.length l.length] rfl rfl rfl rfl rfl) ?_)
  refine VO.go (VO.boxA (vs := [.slice (some ⟨b, 0, none⟩) l.length l.length]) rfl fun p => ?_)
  (repeat (first | refine VC.seq ?_ | refine VC.region ?_ | refine VC.block ?_ | refine VC.label ?_ | refine VC.scope ?_ | refine VO.go (VO.nil ?_) | refine VO.go (VO.ld 0 rfl rfl rfl rfl ?_)))
  refine VO.go (VO.call (Lc := []) (Lr := [pt p [.slice (some ⟨b, 0, none⟩) l.length l.length] 113, pt b (iv (List.replicate l.length 0)) 118]) (fun Fr w hF hs _ => list_spec Fr w (h.of hF hs) hl) rfl rfl ?_)
  rintro _ _ ⟨d, rfl, rfl⟩
  (repeat (first | refine VC.seq ?_ | refine VC.region ?_ | refine VC.block ?_ | refine VC.label ?_ | refine VC.scope ?_ | refine VO.go (VO.nil ?_) | refine VO.go (VO.ld 0 rfl rfl rfl rfl ?_)))
  refine VC.loop (σ := Nat) (fun i => [(3, .pointer (some ⟨p, 0, none⟩)), (17, .slice (some ⟨d, 0, none⟩) l.length l.length), (18, .int .i64 l.length), (19, .int .i64 i)])
    (fun i => [pt d (iv l) 2, pt p [.slice (some ⟨b, 0, none⟩) l.length l.length] 113, pt b (iv (part l i)) 118]) (fun i => i ≤ l.length) (fun i => l.length - i) 0 (Nat.zero_le _) (Sub.cons rfl (Sub.cons rfl (Sub.cons rfl (Sub.cons rfl (Sub.nil _))))) (Ent.of_eq (by rw [part_zero]; rfl)) ?_
  intro i hi
  (repeat (first | refine VC.seq ?_ | refine VC.region ?_ | refine VC.block ?_ | refine VC.label ?_ | refine VC.scope ?_ | refine VO.go (VO.nil ?_) | refine VO.go (VO.ld 0 rfl rfl rfl rfl ?_)))
  refine VC.condP rfl (fun h1 => ?_) (fun h1 => ?_)
  · have hi2 : i < l.length := by omega
    have hx := List.getElem?_eq_getElem hi2
    generalize l[i] = x at hx
    refine VC.skip ?_
    (repeat (first | refine VC.seq ?_ | refine VC.region ?_ | refine VC.block ?_ | refine VC.label ?_ | refine VC.scope ?_ | refine VO.go (VO.nil ?_) | refine VO.go (VO.ld 0 rfl rfl rfl rfl ?_)))
    refine VO.go (VO.light (light_idx i rfl rfl rfl rfl rfl rfl hi2) ?_)
    refine VO.go (VO.ld 0 rfl rfl rfl (iv_at hx) ?_)
    (repeat (first | refine VC.seq ?_ | refine VC.region ?_ | refine VC.block ?_ | refine VC.label ?_ | refine VC.scope ?_ | refine VO.go (VO.nil ?_) | refine VO.go (VO.ld 0 rfl rfl rfl rfl ?_) | refine VO.go (VO.ld 1 rfl rfl rfl rfl ?_)))
    refine VO.go (VO.light (light_idx i rfl rfl rfl rfl rfl rfl hi2) ?_)
    (repeat (first | refine VC.seq ?_ | refine VC.region ?_ | refine VC.block ?_ | refine VC.label ?_ | refine VC.scope ?_ | refine VO.go (VO.nil ?_) | refine VO.go (VO.ld 0 rfl rfl rfl rfl ?_)))
    refine VO.go (VO.callAt 2 rfl (fun Fr w hF hs _ => store_spec Fr w (u := .int .i64 0) (iv_at (part_at hi2))) rfl (ψ := fun v H => v = .tuple #[] ∧ H = pt b ((iv (part l i)).set (0 + i * 1) (.int .i64 x)) 118) (fun v L h => ⟨_, h.2, h.1, rfl⟩) ?_)
    rintro _ _ ⟨rfl, rfl⟩
    (repeat (first | refine VC.seq ?_ | refine VC.region ?_ | refine VC.block ?_ | refine VC.label ?_ | refine VC.scope ?_ | refine VO.go (VO.nil ?_) | refine VO.go (VO.ld 0 rfl rfl rfl rfl ?_)))
    refine VO.go (VO.add rfl rfl (by omega) (by omega) ?_)
    (repeat (first | refine VC.seq ?_ | refine VC.region ?_ | refine VC.block ?_ | refine VC.label ?_ | refine VC.scope ?_ | refine VO.go (VO.nil ?_) | refine VO.go (VO.ld 0 rfl rfl rfl rfl ?_)))
    exact ⟨i + 1, hi2, by dsimp only; omega, Sub.cons rfl (Sub.cons rfl (Sub.cons rfl (Sub.cons rfl (Sub.nil _)))), Ent.of_eq (by dsimp only [List.set]; rw [iv_set, part_set hx])⟩
  · have hi2 : i = l.length := by omega
    subst hi2
    refine VC.exit ?_
    (repeat (first | refine VC.seq ?_ | refine VC.region ?_ | refine VC.block ?_ | refine VC.label ?_ | refine VC.scope ?_ | refine VO.go (VO.nil ?_) | refine VO.go (VO.ld 0 rfl rfl rfl rfl ?_)))
    exact VC.ret (Ret.tmp 2 rfl rfl (Imp.app (L := [_]) (M := []) Imp.nil (Imp.of_eq (by rw [part_all]))).ent ⟨p, b, rfl, rfl⟩)
end Go.Proofs.YtoinocihlfmnnaaDoor.Cnt
