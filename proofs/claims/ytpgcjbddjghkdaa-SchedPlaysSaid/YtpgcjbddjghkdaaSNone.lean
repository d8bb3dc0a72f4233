/- The scheduler that is none: nothing waits in it. Acts, and whether they are great. No condition. -/
import Derived.Test.YtpgcjbddjghkdaaSLaw
namespace Go.Proofs.Ytpgcjbddjghkdaa.SLaw
open Go Go.Proofs.Ytpgcjbddjghkdaa.Vg Go.Proofs.Ytpgcjbddjghkdaa.T Go.Proofs.Ytpgcjbddjghkdaa.Api Go.Proofs.Ytpgcjbddjghkdaa.Ring Go.Proofs.Ytpgcjbddjghkdaa.Sched
set_option linter.unusedSimpArgs false
set_option linter.unusedVariables false
attribute [local irreducible] VO VC VA

/-- One that New did not make. -/
def zeroCs : List Value := [.slice none 0 0, .int .i64 0, .bool false]
def NoneAt (Fr : Nat → Prop) (w : World) (x : Value) : Prop := x = .pointer none ∨ ∃ p, x = .pointer (some ⟨p, 0, none⟩) ∧ Blk Fr w p zeroCs
theorem NoneAt.of {X : Cx} {x : Value} (h : NoneAt X.Fr X.w0 x) {Fr' : Nat → Prop} (hF : ∀ b, X.Fr b → Fr' b) {w : World} {L : List HP} (hw : St X L w) : NoneAt Fr' w x := by
  rcases h with h | ⟨p, h1, h2⟩
  · exact .inl h
  · exact .inr ⟨p, h1, h2.of hF hw⟩
theorem none_any (Fr : Nat → Prop) (w : World) {x : Value} (h : NoneAt Fr w x) : Tri Try.prog 34 [x] Fr w [] (fun v L => v = .bool true ∧ L = []) := by
  rcases h with rfl | ⟨p, rfl, hb⟩
  · exact none_nil Fr w
  · exact Sched.none_spec Fr w hb
theorem has_any (Fr : Nat → Prop) (w : World) {x : Value} (i : Int) (h : NoneAt Fr w x) : Tri Try.prog 35 [x, .int .i64 i] Fr w [] (fun v L => v = .bool false ∧ L = []) := by
  rcases h with rfl | ⟨p, rfl, hb⟩
  · exact has_nil Fr w i
  · have := has_spec Fr w i hb
    rwa [decide_eq_false (by omega)] at this
theorem len_none (Fr : Nat → Prop) (w : World) {x : Value} (i : Int) (h : NoneAt Fr w x) : Tri Try.prog 20 [x, .int .i64 i] Fr w [] (fun v L => v = .int .i64 0 ∧ L = []) := by
  refine Tri.of 18 Try.func20 rfl (by kernel_rfl) tabOk rfl rfl ?_
  (repeat (first | refine VC.seq ?_ | refine VC.region ?_ | refine VC.block ?_ | refine VC.label ?_ | refine VC.scope ?_ | refine VO.go (VO.nil ?_) | refine VO.go (VO.ld 0 rfl rfl rfl rfl ?_)))
  refine VO.go (VO.callV' (fun Fr w hF hs _ => has_any Fr w i (h.of hF hs)) rfl (VO.go (VO.nil (VC.condT rfl ?_))))
  (repeat (first | refine VC.seq ?_ | refine VC.region ?_ | refine VC.block ?_ | refine VC.label ?_ | refine VC.scope ?_ | refine VO.go (VO.nil ?_) | refine VO.go (VO.ld 0 rfl rfl rfl rfl ?_)))
  exact VC.ret (Ret.int 4 rfl rfl rfl Ent.refl ⟨rfl, rfl⟩)
theorem served_none (Fr : Nat → Prop) (w : World) {x : Value} (i : Int) (h : NoneAt Fr w x) : Tri Try.prog 19 [x, .int .i64 i] Fr w [] (fun v L => v = .int .i64 0 ∧ L = []) := by
  refine Tri.of 17 Try.func19 rfl (by kernel_rfl) tabOk rfl rfl ?_
  (repeat (first | refine VC.seq ?_ | refine VC.region ?_ | refine VC.block ?_ | refine VC.label ?_ | refine VC.scope ?_ | refine VO.go (VO.nil ?_) | refine VO.go (VO.ld 0 rfl rfl rfl rfl ?_)))
  refine VO.go (VO.callV' (fun Fr w hF hs _ => has_any Fr w i (h.of hF hs)) rfl (VO.go (VO.nil (VC.condT rfl ?_))))
  (repeat (first | refine VC.seq ?_ | refine VC.region ?_ | refine VC.block ?_ | refine VC.label ?_ | refine VC.scope ?_ | refine VO.go (VO.nil ?_) | refine VO.go (VO.ld 0 rfl rfl rfl rfl ?_)))
  exact VC.ret (Ret.int 4 rfl rfl rfl Ent.refl ⟨rfl, rfl⟩)
set_option maxRecDepth 100000 in
theorem push_none (Fr : Nat → Prop) (w : World) {x : Value} (f : FM) (h : NoneAt Fr w x) : Tri Try.prog 16 [x, .agg (fmc f).toArray] Fr w [] (fun v L => v = .int .i64 1 ∧ L = []) := by
  refine Tri.of 33 Try.func16 rfl (by kernel_rfl) tabOk rfl rfl ?_
  refine VC.seq (VC.region (VO.go (VO.boxA (vs := fmc f) rfl fun b => VO.go (VO.nil ?_))))
  (repeat (first | refine VC.seq ?_ | refine VC.region ?_ | refine VC.block ?_ | refine VC.label ?_ | refine VC.scope ?_ | refine VO.go (VO.nil ?_) | refine VO.go (VO.ld 0 rfl rfl rfl rfl ?_)))
  refine VO.go (VO.callV' (fun Fr w hF hs _ => none_any Fr w (h.of hF hs)) rfl (VO.go (VO.nil (VC.condT rfl ?_))))
  (repeat (first | refine VC.seq ?_ | refine VC.region ?_ | refine VC.block ?_ | refine VC.label ?_ | refine VC.scope ?_ | refine VO.go (VO.nil ?_) | refine VO.go (VO.ld 0 rfl rfl rfl rfl ?_)))
  exact VC.ret (Ret.int 4 rfl rfl rfl Imp.nil.ent ⟨rfl, rfl⟩)
set_option maxRecDepth 100000 in
theorem pop_none (Fr : Nat → Prop) (w : World) {x : Value} (h : NoneAt Fr w x) : Tri Try.prog 18 [x] Fr w [] (fun v L => v = .tuple #[.agg (fmc fmz).toArray, .bool false] ∧ L = []) := by
  refine Tri.of 107 Try.func18 rfl (by kernel_rfl) tabOk rfl rfl ?_
  refine VC.seq (VC.region (VO.go (VO.alloc rfl fun b => VO.go (VO.nil ?_))))
  (repeat (first | refine VC.seq ?_ | refine VC.region ?_ | refine VC.block ?_ | refine VC.label ?_ | refine VC.scope ?_ | refine VO.go (VO.nil ?_) | refine VO.go (VO.ld 0 rfl rfl rfl rfl ?_)))
  refine VO.go (VO.callV' (fun Fr w hF hs _ => none_any Fr w (h.of hF hs)) rfl (VO.go (VO.yes 10 true rfl rfl (VO.go (VO.nil (VC.condT rfl ?_))))))
  refine VC.seq (VC.region (VO.go (VO.light (light_build (pv := []) (fmc fmz) rfl rfl rfl rfl rfl) (VO.go (VO.stA (vs := fmc fmz) (cs' := fmc fmz) 0 rfl rfl rfl rfl (Nat.le_refl _) rfl rfl rfl (VO.go (VO.nil ?_)))))))
  exact VC.ret (Ret.cellTmp 2 3 rfl rfl rfl (RdL.many 0 rfl rfl) rfl Imp.nil.ent ⟨rfl, rfl⟩)
theorem expire_none (Fr : Nat → Prop) (w : World) {x : Value} (now : Int) (h : NoneAt Fr w x) : Tri Try.prog 24 [x, .int .i64 now] Fr w [] (fun v L => v = .slice none 0 0 ∧ L = []) := by
  refine Tri.of 67 Try.func24 rfl (by kernel_rfl) tabOk rfl rfl ?_
  (repeat (first | refine VC.seq ?_ | refine VC.region ?_ | refine VC.block ?_ | refine VC.label ?_ | refine VC.scope ?_ | refine VO.go (VO.nil ?_) | refine VO.go (VO.ld 0 rfl rfl rfl rfl ?_)))
  refine VO.go (VO.callV' (fun Fr w hF hs _ => none_any Fr w (h.of hF hs)) rfl (VO.go (VO.nil (VC.condT rfl ?_))))
  (repeat (first | refine VC.seq ?_ | refine VC.region ?_ | refine VC.block ?_ | refine VC.label ?_ | refine VC.scope ?_ | refine VO.go (VO.nil ?_) | refine VO.go (VO.ld 0 rfl rfl rfl rfl ?_)))
  exact VC.ret (Ret.tmp 4 rfl rfl Ent.refl ⟨rfl, rfl⟩)
theorem waiting_none (Fr : Nat → Prop) (w : World) {x : Value} (h : NoneAt Fr w x) : Tri Try.prog 23 [x] Fr w [] (fun v L => v = .slice none 0 0 ∧ L = []) := by
  refine Tri.of 40 Try.func23 rfl (by kernel_rfl) tabOk rfl rfl ?_
  (repeat (first | refine VC.seq ?_ | refine VC.region ?_ | refine VC.block ?_ | refine VC.label ?_ | refine VC.scope ?_ | refine VO.go (VO.nil ?_) | refine VO.go (VO.ld 0 rfl rfl rfl rfl ?_)))
  refine VO.go (VO.callV' (fun Fr w hF hs _ => none_any Fr w (h.of hF hs)) rfl (VO.go (VO.nil (VC.condT rfl ?_))))
  (repeat (first | refine VC.seq ?_ | refine VC.region ?_ | refine VC.block ?_ | refine VC.label ?_ | refine VC.scope ?_ | refine VO.go (VO.nil ?_) | refine VO.go (VO.ld 0 rfl rfl rfl rfl ?_)))
  exact VC.ret (Ret.tmp 2 rfl rfl Ent.refl ⟨rfl, rfl⟩)
theorem copy_none (Fr : Nat → Prop) (w : World) {x : Value} (h : NoneAt Fr w x) : Tri Try.prog 30 [x] Fr w [] (fun v L => v = .pointer none ∧ L = []) := by
  refine Tri.of 43 Try.func30 rfl (by kernel_rfl) tabOk rfl rfl ?_
  (repeat (first | refine VC.seq ?_ | refine VC.region ?_ | refine VC.block ?_ | refine VC.label ?_ | refine VC.scope ?_ | refine VO.go (VO.nil ?_) | refine VO.go (VO.ld 0 rfl rfl rfl rfl ?_)))
  refine VO.go (VO.callV' (fun Fr w hF hs _ => none_any Fr w (h.of hF hs)) rfl (VO.go (VO.nil (VC.condT rfl ?_))))
  (repeat (first | refine VC.seq ?_ | refine VC.region ?_ | refine VC.block ?_ | refine VC.label ?_ | refine VC.scope ?_ | refine VO.go (VO.nil ?_) | refine VO.go (VO.ld 0 rfl rfl rfl rfl ?_)))
  exact VC.ret (Ret.tmp 2 rfl rfl Ent.refl ⟨rfl, rfl⟩)

/-! ### Acts -/
structure ActM where
  kind : Int
  f : FrameM
  ma : Option Addr
  mn : Nat
  mc : Nat
  now : Int
def frameG (f : FrameM) (a : Option Addr) (n c : Nat) : List Value :=
  [.int .i64 f.kind, .int .i64 f.epoch, .int .i64 f.client, .int .i64 f.seq, .int .i64 f.try_, .int .i64 f.cls, .int .i64 f.deadline,
   .int .i64 f.op.kind, .string f.op.key, .string f.op.value, .int .i64 f.op.version,
   .int .i64 f.res.code, .string f.res.value, .int .i64 f.res.version, .int .i64 f.res.at_, .int .i64 f.reason,
   .int .i64 f.entry.index, .int .i64 f.entry.client, .int .i64 f.entry.seq, .int .i64 f.entry.op.kind, .string f.entry.op.key, .string f.entry.op.value, .int .i64 f.entry.op.version,
   .int .i64 f.cepoch, .slice a n c, .int .i64 f.drain, .int .i64 f.index, .int .i64 f.grant, .int .i64 f.have_]
def ActM.cells (x : ActM) : List Value := .int .u8 x.kind :: (frameG x.f x.ma x.mn x.mc ++ [.int .i64 x.now])
theorem ActM.cells_len (x : ActM) : x.cells.length = 31 := rfl
def ActM.bad (x : ActM) : Bool := decide (200 < x.f.op.key.size) || decide (200 < x.f.op.value.size) || decide (0 < x.mn)
def greatM (l : List ActM) (most : Int) : Bool := l.any ActM.bad || decide (most < l.length)
structure ActsIn (Fr : Nat → Prop) (w : World) (a : Option Addr) (l : List ActM) : Prop where
  at_ : l ≠ [] → ∃ b off, a = some ⟨b, off, none⟩ ∧ Fr b ∧ ∀ i x, l[i]? = some x → ∀ j v, x.cells[j]? = some v → w.cell? ⟨b, off + i * 31 + j, none⟩ = some v
  len : l.length ≤ 9223372036854775807
theorem ActsIn.blk1 {Fr : Nat → Prop} {w : World} {b : Nat} {x : ActM} (h : Blk Fr w b x.cells) : ActsIn Fr w (some ⟨b, 0, none⟩) [x] := ⟨fun _ => ⟨b, 0, rfl, h.fr, fun i y hy j v hv => by
  obtain ⟨t, fz, ht⟩ := h.at_
  match i, hy with
  | 0, hy =>
    obtain rfl : x = y := Option.some.inj hy
    rw [cell_of_row w b (0 + 0 * 31 + j) x.cells.toArray t fz ht]
    simpa using hv
  | n + 1, hy => cases hy⟩, by show 1 ≤ _; omega⟩

set_option maxRecDepth 100000 in
theorem great_spec (Fr : Nat → Prop) (w : World) (a : Option Addr) (c : Nat) (l : List ActM) (most : Int) (h : ActsIn Fr w a l) :
    Tri Try.prog 25 [.slice a l.length c, .int .i64 most] Fr w [] (fun v L => v = .bool (greatM l most) ∧ L = []) := by
  refine Tri.of 47 Try.func25 rfl (by kernel_rfl) tabOk rfl rfl ?_
  have hlen := h.len
  (repeat (first | refine VC.seq ?_ | refine VC.region ?_ | refine VC.block ?_ | refine VC.label ?_ | refine VC.scope ?_ | refine VO.go (VO.nil ?_) | refine VO.go (VO.ld 0 rfl rfl rfl rfl ?_)))
  refine VC.loop (fun i : Nat => [(0, .slice a l.length c), (1, .int .i64 most), (5, .int .i64 i)]) (fun _ => []) (fun i => i ≤ l.length ∧ (l.take i).any ActM.bad = false) (fun i => l.length - i) 0 ⟨Nat.zero_le _, rfl⟩ (Sub.cons rfl (Sub.cons rfl (Sub.cons rfl (Sub.nil _)))) Ent.refl ?_
  rintro i ⟨hi, hall⟩
  (repeat (first | refine VC.seq ?_ | refine VC.region ?_ | refine VC.block ?_ | refine VC.label ?_ | refine VC.scope ?_ | refine VO.go (VO.nil ?_) | refine VO.go (VO.ld 0 rfl rfl rfl rfl ?_)))
  refine VC.condP rfl (fun h1 => ?_) (fun h1 => ?_)
  · have hi2 : i < l.length := by omega
    obtain ⟨b, off, rfl, hF, hcell⟩ := h.at_ (fun e => by rw [e] at hi2; simp at hi2)
    have hx := List.getElem?_eq_getElem hi2
    have hmem : l[i] ∈ l := List.getElem_mem hi2
    have htake : l.take (i + 1) = l.take i ++ [l[i]] := by rw [List.take_add_one, hx]; rfl
    generalize l[i] = x at hx hmem htake
    have hk := hcell i x hx 9 _ rfl
    have hv := hcell i x hx 10 _ rfl
    have hm := hcell i x hx 25 _ rfl
    have great : x.bad = true → greatM l most = true := fun hb => by
      have : l.any ActM.bad = true := List.any_eq_true.2 ⟨x, hmem, hb⟩
      simp [greatM, this]
    refine VC.skip ?_
    (repeat (first | refine VC.seq ?_ | refine VC.region ?_ | refine VC.block ?_ | refine VC.label ?_ | refine VC.scope ?_ | refine VO.go (VO.nil ?_) | refine VO.go (VO.ld 0 rfl rfl rfl rfl ?_)))
    refine VO.go (VO.light (light_idx i rfl rfl rfl rfl rfl rfl hi2) ?_)
    refine VO.go (VO.load rfl rfl (RdL.rd (v := .string x.f.op.key) hF hk) (VO.go (VO.split 21 rfl rfl (fun h2 => ?_) (fun h2 => ?_))))
    · have h2 := of_decide_eq_true h2
      refine VO.go (VO.yes 32 true rfl rfl (VO.go (VO.nil (VC.condT rfl ?_))))
      (repeat (first | refine VC.seq ?_ | refine VC.region ?_ | refine VC.block ?_ | refine VC.label ?_ | refine VC.scope ?_ | refine VO.go (VO.nil ?_) | refine VO.go (VO.ld 0 rfl rfl rfl rfl ?_)))
      exact VC.ret (Ret.bool 4 rfl rfl (great (by simp only [ActM.bad, Bool.or_eq_true, decide_eq_true_eq]; omega)).symm Ent.refl ⟨rfl, rfl⟩)
    have h2 := of_decide_eq_false h2
    refine VO.go (VO.light (light_idx i rfl rfl rfl rfl rfl rfl hi2) ?_)
    refine VO.go (VO.load rfl rfl (RdL.rd (v := .string x.f.op.value) hF hv) (VO.go (VO.split 32 rfl rfl (fun h3 => ?_) (fun h3 => ?_))))
    · have h3 := of_decide_eq_true h3
      refine VO.go (VO.nil (VC.condT rfl ?_))
      (repeat (first | refine VC.seq ?_ | refine VC.region ?_ | refine VC.block ?_ | refine VC.label ?_ | refine VC.scope ?_ | refine VO.go (VO.nil ?_) | refine VO.go (VO.ld 0 rfl rfl rfl rfl ?_)))
      exact VC.ret (Ret.bool 4 rfl rfl (great (by simp only [ActM.bad, Bool.or_eq_true, decide_eq_true_eq]; omega)).symm Ent.refl ⟨rfl, rfl⟩)
    have h3 := of_decide_eq_false h3
    refine VO.go (VO.light (light_idx i rfl rfl rfl rfl rfl rfl hi2) ?_)
    refine VO.go (VO.load rfl rfl (RdL.rd (v := .slice x.ma x.mn x.mc) hF hm) (VO.go (VO.nil (VC.condP rfl (fun h4 => ?_) (fun h4 => VC.skip ?_)))))
    · (repeat (first | refine VC.seq ?_ | refine VC.region ?_ | refine VC.block ?_ | refine VC.label ?_ | refine VC.scope ?_ | refine VO.go (VO.nil ?_) | refine VO.go (VO.ld 0 rfl rfl rfl rfl ?_)))
      exact VC.ret (Ret.bool 4 rfl rfl (great (by simp only [ActM.bad, Bool.or_eq_true, decide_eq_true_eq]; omega)).symm Ent.refl ⟨rfl, rfl⟩)
    (repeat (first | refine VC.seq ?_ | refine VC.region ?_ | refine VC.block ?_ | refine VC.label ?_ | refine VC.scope ?_ | refine VO.go (VO.nil ?_) | refine VO.go (VO.ld 0 rfl rfl rfl rfl ?_)))
    refine VO.go (VO.add rfl rfl (by omega) (by omega) ?_)
    (repeat (first | refine VC.seq ?_ | refine VC.region ?_ | refine VC.block ?_ | refine VC.label ?_ | refine VC.scope ?_ | refine VO.go (VO.nil ?_) | refine VO.go (VO.ld 0 rfl rfl rfl rfl ?_)))
    refine ⟨i + 1, ⟨hi2, ?_⟩, by dsimp only; omega, Sub.cons rfl (Sub.cons rfl (Sub.cons rfl (Sub.nil _))), Ent.refl⟩
    rw [htake, List.any_append, hall]
    have : x.bad = false := by
      simp only [ActM.bad, Bool.or_eq_false_iff, decide_eq_false_iff_not]; omega
    simp [this]
  · have hi2 : i = l.length := by omega
    subst hi2
    rw [List.take_length] at hall
    refine VC.exit ?_
    (repeat (first | refine VC.seq ?_ | refine VC.region ?_ | refine VC.block ?_ | refine VC.label ?_ | refine VC.scope ?_ | refine VO.go (VO.nil ?_) | refine VO.go (VO.ld 0 rfl rfl rfl rfl ?_)))
    exact VC.ret (Ret.bool 4 rfl rfl (by simp [greatM, hall]) Ent.refl ⟨rfl, rfl⟩)
end Go.Proofs.Ytpgcjbddjghkdaa.SLaw
