/- AdmitNone, walked through. Condition: the kinds' bounds. -/
import Derived.Test.YtoinocihlfmnnaaAGreat
import Derived.Test.YtoinocihlfmnnaaRCheck
namespace Go.Proofs.Ytoinocihlfmnnaa.Adm
open Go Go.Proofs.Ytoinocihlfmnnaa.Vg Go.Proofs.Ytoinocihlfmnnaa.T Go.Proofs.Ytoinocihlfmnnaa.Api Go.Proofs.Ytoinocihlfmnnaa.Sched Go.Proofs.Ytoinocihlfmnnaa.Conf
set_option linter.unusedSimpArgs false
set_option linter.unusedVariables false
attribute [local irreducible] VO VC VA

/-- One that New did not make. -/
def zeroA : List Value := .pointer none :: List.replicate 20 (.int .i64 0)
def NoneAt (Fr : Nat → Prop) (w : World) (x : Value) : Prop := x = .pointer none ∨ ∃ p, x = .pointer (some ⟨p, 0, none⟩) ∧ Blk Fr w p zeroA
theorem NoneAt.of {X : Cx} {x : Value} (h : NoneAt X.Fr X.w0 x) {Fr' : Nat → Prop} (hF : ∀ b, X.Fr b → Fr' b) {w : World} {L : List HP} (hw : St X L w) : NoneAt Fr' w x := by
  rcases h with h | ⟨p, h1, h2⟩
  · exact .inl h
  · exact .inr ⟨p, h1, h2.of hF hw⟩
theorem none_any (Fr : Nat → Prop) (w : World) {x : Value} (h : NoneAt Fr w x) : Tri Try.prog 27 [x] Fr w [] (fun v L => v = .bool true ∧ L = []) := by
  rcases h with rfl | ⟨p, rfl, hb⟩
  · refine Tri.of 12 Try.func27 rfl (by kernel_rfl) tabOk rfl rfl ?_
    (repeat (first | refine VC.seq ?_ | refine VC.region ?_ | refine VC.block ?_ | refine VC.label ?_ | refine VC.scope ?_ | refine VO.go (VO.nil ?_) | refine VO.go (VO.ld 0 rfl rfl rfl rfl ?_)))
    refine VO.go (VO.yes 5 true rfl rfl ?_)
    (repeat (first | refine VC.seq ?_ | refine VC.region ?_ | refine VC.block ?_ | refine VC.label ?_ | refine VC.scope ?_ | refine VO.go (VO.nil ?_) | refine VO.go (VO.ld 0 rfl rfl rfl rfl ?_)))
    exact VC.ret (Ret.bool 2 rfl rfl rfl Ent.refl ⟨rfl, rfl⟩)
  · refine Tri.of 12 Try.func27 rfl (by kernel_rfl) tabOk rfl rfl ?_
    (repeat (first | refine VC.seq ?_ | refine VC.region ?_ | refine VC.block ?_ | refine VC.label ?_ | refine VC.scope ?_ | refine VO.go (VO.nil ?_) | refine VO.go (VO.ld 0 rfl rfl rfl rfl ?_)))
    refine VO.go (VO.yes 5 false rfl rfl ?_)
    (repeat (first | refine VC.seq ?_ | refine VC.region ?_ | refine VC.block ?_ | refine VC.label ?_ | refine VC.scope ?_ | refine VO.go (VO.nil ?_) | refine VO.go (VO.load rfl rfl (RdL.blk hb rfl) ?_)))
    exact VC.ret (Ret.bool 2 rfl rfl rfl Ent.refl ⟨rfl, rfl⟩)
theorem has_any (Fr : Nat → Prop) (w : World) {x : Value} (k : Int) (h : NoneAt Fr w x) : Tri Try.prog 28 [x, .int .i64 k] Fr w [] (fun v L => v = .bool false ∧ L = []) := by
  refine Tri.of 20 Try.func28 rfl (by kernel_rfl) tabOk rfl rfl ?_
  (repeat (first | refine VC.seq ?_ | refine VC.region ?_ | refine VC.block ?_ | refine VC.label ?_ | refine VC.scope ?_ | refine VO.go (VO.nil ?_) | refine VO.go (VO.ld 0 rfl rfl rfl rfl ?_)))
  refine VO.go (VO.callV' (fun Fr w hF hs _ => none_any Fr w (h.of hF hs)) rfl (VO.go (VO.yes 8 false rfl rfl (VO.go (VO.yes 12 false rfl rfl ?_)))))
  (repeat (first | refine VC.seq ?_ | refine VC.region ?_ | refine VC.block ?_ | refine VC.label ?_ | refine VC.scope ?_ | refine VO.go (VO.nil ?_) | refine VO.go (VO.ld 0 rfl rfl rfl rfl ?_)))
  exact VC.ret (Ret.bool 4 rfl rfl rfl Ent.refl ⟨rfl, rfl⟩)
set_option maxRecDepth 100000 in
theorem may_none (Fr : Nat → Prop) (w : World) {x : Value} (f : FM) (h : NoneAt Fr w x) : Tri Try.prog 20 [x, .agg (fmc f).toArray] Fr w [] (fun v L => v = .bool false ∧ L = []) := by
  refine Tri.of 60 Try.func20 rfl (by kernel_rfl) tabOk rfl rfl ?_
  refine VC.seq (VC.region (VO.go (VO.boxA (vs := fmc f) rfl fun b => VO.go (VO.nil ?_))))
  refine VC.seq (VC.draw (ts 0 3 (.only 3 (ts 4 8 (.only 12 (ts 13 4 (.only 17 (ts 18 28 (.only 46 (ts 47 5 (.only 52 (ts 53 3 .nil))))))))))) (by kernel_rfl) (by decide +kernel) ?_)
  (repeat (first | refine VA.go (VA.nil ?_) | refine VA.go (VA.ld 0 rfl rfl rfl rfl rfl ?_)))
  refine VA.go (VA.callP (φ := fun v => v = .bool false) (fun Fr w hF hs _ => has_any Fr w f.1.client (h.of hF hs)) rfl rfl (by (try refine Pd.st ?_); (repeat (first | exact Pd.nil | exact Pd.fnil | refine Pd.inner ?_ | refine Pd.skip (by decide +kernel) ?_ | refine Pd.fcons (RdL.one 0 rfl rfl) ?_ | refine Pd.fcons (RdL.many 0 rfl rfl) ?_ | refine Pd.cons (RdL.one 0 rfl rfl) ?_ | refine Pd.cons (RdL.many 0 rfl rfl) ?_))) ?_)
  rintro _ rfl
  refine VA.go (VA.yes 9 false rfl rfl ?_)
  refine VA.go (VA.yes 14 false rfl rfl ?_)
  refine VA.go (VA.offO rfl rfl ?_)
  refine VA.go (VA.yes 19 false rfl rfl ?_)
  refine VA.go (VA.offO rfl rfl ?_)
  refine VA.go (VA.yes 24 false rfl rfl ?_)
  refine VA.go (VA.yes 29 false rfl rfl ?_)
  refine VA.go (VA.yes 38 false rfl rfl ?_)
  refine VA.go (VA.yes 43 false rfl rfl ?_)
  refine VA.go (VA.yes 48 false rfl rfl ?_)
  refine VA.go (VA.offO rfl rfl ?_)
  refine VA.go (VA.yes 54 false rfl rfl ?_)
  refine VA.go (VA.offO rfl rfl ?_)
  (repeat (first | refine VA.go (VA.nil ?_) | refine VA.go (VA.ld 0 rfl rfl rfl rfl rfl ?_)))
  exact VC.ret (Ret.bool 4 rfl rfl rfl Imp.nil.ent ⟨rfl, rfl⟩)
set_option maxRecDepth 100000 in
theorem offer_none (Fr : Nat → Prop) (w : World) {x : Value} (f : FM) (now : Int) (h : NoneAt Fr w x) : Tri Try.prog 13 [x, .agg (fmc f).toArray, .int .i64 now] Fr w [] (fun v L => v = .int .i64 10 ∧ L = []) := by
  refine Tri.of 31 Try.func13 rfl (by kernel_rfl) tabOk rfl rfl ?_
  refine VC.seq (VC.region (VO.go (VO.boxA (vs := fmc f) rfl fun b => VO.go (VO.nil ?_))))
  (repeat (first | refine VC.seq ?_ | refine VC.region ?_ | refine VC.block ?_ | refine VC.label ?_ | refine VC.scope ?_ | refine VO.go (VO.nil ?_) | refine VO.go (VO.ld 0 rfl rfl rfl rfl ?_)))
  refine VO.go (VO.ldA 0 (fmc f) rfl rfl rfl rfl ?_)
  refine VO.go (VO.callV' (fun Fr w hF hs _ => may_none Fr w f (h.of hF hs)) rfl (VO.go (VO.nil (VC.condT rfl ?_))))
  (repeat (first | refine VC.seq ?_ | refine VC.region ?_ | refine VC.block ?_ | refine VC.label ?_ | refine VC.scope ?_ | refine VO.go (VO.nil ?_) | refine VO.go (VO.ld 0 rfl rfl rfl rfl ?_)))
  exact VC.ret (Ret.int 6 rfl rfl rfl Imp.nil.ent ⟨rfl, rfl⟩)
set_option maxRecDepth 100000 in
theorem next_none (Fr : Nat → Prop) (w : World) {x : Value} (now : Int) (h : NoneAt Fr w x) : Tri Try.prog 14 [x, .int .i64 now] Fr w [] (fun v L => v = .tuple #[.agg (fmc fmz).toArray, .bool false, .slice none 0 0] ∧ L = []) := by
  refine Tri.of 31 Try.func14 rfl (by kernel_rfl) tabOk rfl rfl ?_
  refine VC.seq (VC.region (VO.go (VO.alloc rfl fun b => VO.go (VO.nil ?_))))
  (repeat (first | refine VC.seq ?_ | refine VC.region ?_ | refine VC.block ?_ | refine VC.label ?_ | refine VC.scope ?_ | refine VO.go (VO.nil ?_) | refine VO.go (VO.ld 0 rfl rfl rfl rfl ?_)))
  refine VO.go (VO.callV' (fun Fr w hF hs _ => none_any Fr w (h.of hF hs)) rfl (VO.go (VO.nil (VC.condT rfl ?_))))
  refine VC.seq (VC.region (VO.go (VO.light (light_build (pv := []) (fmc fmz) rfl rfl rfl rfl rfl) (VO.go (VO.stA (vs := fmc fmz) (cs' := fmc fmz) 0 rfl rfl rfl rfl (Nat.le_refl _) rfl rfl rfl (VO.go (VO.nil ?_)))))))
  exact VC.ret (Ret.cell3 4 5 6 rfl rfl rfl (RdL.many 0 rfl rfl) rfl rfl Imp.nil.ent ⟨rfl, rfl⟩)
theorem waits_none (Fr : Nat → Prop) (w : World) {x : Value} (k : Int) (h : NoneAt Fr w x) : Tri Try.prog 16 [x, .int .i64 k] Fr w [] (fun v L => v = .tuple #[.int .i64 0, .bool false] ∧ L = []) := by
  refine Tri.of 25 Try.func16 rfl (by kernel_rfl) tabOk rfl rfl ?_
  (repeat (first | refine VC.seq ?_ | refine VC.region ?_ | refine VC.block ?_ | refine VC.label ?_ | refine VC.scope ?_ | refine VO.go (VO.nil ?_) | refine VO.go (VO.ld 0 rfl rfl rfl rfl ?_)))
  refine VO.go (VO.callV' (fun Fr w hF hs _ => has_any Fr w k (h.of hF hs)) rfl (VO.go (VO.yes 10 true rfl rfl (VO.go (VO.nil (VC.condT rfl ?_))))))
  (repeat (first | refine VC.seq ?_ | refine VC.region ?_ | refine VC.block ?_ | refine VC.label ?_ | refine VC.scope ?_ | refine VO.go (VO.nil ?_) | refine VO.go (VO.ld 0 rfl rfl rfl rfl ?_)))
  exact VC.ret (Ret.tmp2 4 5 rfl rfl rfl Ent.refl ⟨rfl, rfl⟩)
theorem barred_none (Fr : Nat → Prop) (w : World) {x : Value} (k s t : Int) (h : NoneAt Fr w x) : Tri Try.prog 11 [x, .int .i64 k, .int .i64 s, .int .i64 t] Fr w [] (fun v L => v = .bool false ∧ L = []) := by
  refine Tri.of 25 Try.func11 rfl (by kernel_rfl) tabOk rfl rfl ?_
  (repeat (first | refine VC.seq ?_ | refine VC.region ?_ | refine VC.block ?_ | refine VC.label ?_ | refine VC.scope ?_ | refine VO.go (VO.nil ?_) | refine VO.go (VO.ld 0 rfl rfl rfl rfl ?_)))
  refine VO.go (VO.callV' (fun Fr w hF hs _ => has_any Fr w k (h.of hF hs)) rfl (VO.go (VO.yes 12 false rfl rfl ?_)))
  (repeat (first | refine VC.seq ?_ | refine VC.region ?_ | refine VC.block ?_ | refine VC.label ?_ | refine VC.scope ?_ | refine VO.go (VO.nil ?_) | refine VO.go (VO.ld 0 rfl rfl rfl rfl ?_)))
  exact VC.ret (Ret.bool 8 rfl rfl rfl Ent.refl ⟨rfl, rfl⟩)
theorem bar_none (Fr : Nat → Prop) (w : World) {x : Value} (k s t : Int) (h : NoneAt Fr w x) : Tri Try.prog 10 [x, .int .i64 k, .int .i64 s, .int .i64 t] Fr w [] (fun v L => v = .int .i64 1 ∧ L = []) := by
  refine Tri.of 45 Try.func10 rfl (by kernel_rfl) tabOk rfl rfl ?_
  (repeat (first | refine VC.seq ?_ | refine VC.region ?_ | refine VC.block ?_ | refine VC.label ?_ | refine VC.scope ?_ | refine VO.go (VO.nil ?_) | refine VO.go (VO.ld 0 rfl rfl rfl rfl ?_)))
  refine VO.go (VO.callV' (fun Fr w hF hs _ => none_any Fr w (h.of hF hs)) rfl (VO.go (VO.nil (VC.condT rfl ?_))))
  (repeat (first | refine VC.seq ?_ | refine VC.region ?_ | refine VC.block ?_ | refine VC.label ?_ | refine VC.scope ?_ | refine VO.go (VO.nil ?_) | refine VO.go (VO.ld 0 rfl rfl rfl rfl ?_)))
  exact VC.ret (Ret.int 8 rfl rfl rfl Ent.refl ⟨rfl, rfl⟩)
theorem flush_none (Fr : Nat → Prop) (w : World) {x : Value} (h : NoneAt Fr w x) : Tri Try.prog 18 [x] Fr w [] (fun v L => v = .slice none 0 0 ∧ L = []) := by
  refine Tri.of 7 Try.func18 rfl (by kernel_rfl) tabOk rfl rfl ?_
  (repeat (first | refine VC.seq ?_ | refine VC.region ?_ | refine VC.block ?_ | refine VC.label ?_ | refine VC.scope ?_ | refine VO.go (VO.nil ?_) | refine VO.go (VO.ld 0 rfl rfl rfl rfl ?_)))
  refine VO.go (VO.callV' (fun Fr w hF hs _ => none_any Fr w (h.of hF hs)) rfl (VO.go (VO.nil (VC.condT rfl ?_))))
  (repeat (first | refine VC.seq ?_ | refine VC.region ?_ | refine VC.block ?_ | refine VC.label ?_ | refine VC.scope ?_ | refine VO.go (VO.nil ?_) | refine VO.go (VO.ld 0 rfl rfl rfl rfl ?_)))
  exact VC.ret (Ret.tmp 2 rfl rfl Ent.refl ⟨rfl, rfl⟩)
theorem len_none (Fr : Nat → Prop) (w : World) {x : Value} (k : Int) (h : NoneAt Fr w x) : Tri Try.prog 17 [x, .int .i64 k] Fr w [] (fun v L => v = .int .i64 0 ∧ L = []) := by
  refine Tri.of 13 Try.func17 rfl (by kernel_rfl) tabOk rfl rfl ?_
  (repeat (first | refine VC.seq ?_ | refine VC.region ?_ | refine VC.block ?_ | refine VC.label ?_ | refine VC.scope ?_ | refine VO.go (VO.nil ?_) | refine VO.go (VO.ld 0 rfl rfl rfl rfl ?_)))
  refine VO.go (VO.callV' (fun Fr w hF hs _ => none_any Fr w (h.of hF hs)) rfl (VO.go (VO.nil (VC.condT rfl ?_))))
  (repeat (first | refine VC.seq ?_ | refine VC.region ?_ | refine VC.block ?_ | refine VC.label ?_ | refine VC.scope ?_ | refine VO.go (VO.nil ?_) | refine VO.go (VO.ld 0 rfl rfl rfl rfl ?_)))
  exact VC.ret (Ret.int 4 rfl rfl rfl Ent.refl ⟨rfl, rfl⟩)
theorem served_none (Fr : Nat → Prop) (w : World) {x : Value} (k : Int) (h : NoneAt Fr w x) : Tri Try.prog 21 [x, .int .i64 k] Fr w [] (fun v L => v = .int .i64 0 ∧ L = []) := by
  refine Tri.of 13 Try.func21 rfl (by kernel_rfl) tabOk rfl rfl ?_
  (repeat (first | refine VC.seq ?_ | refine VC.region ?_ | refine VC.block ?_ | refine VC.label ?_ | refine VC.scope ?_ | refine VO.go (VO.nil ?_) | refine VO.go (VO.ld 0 rfl rfl rfl rfl ?_)))
  refine VO.go (VO.callV' (fun Fr w hF hs _ => none_any Fr w (h.of hF hs)) rfl (VO.go (VO.nil (VC.condT rfl ?_))))
  (repeat (first | refine VC.seq ?_ | refine VC.region ?_ | refine VC.block ?_ | refine VC.label ?_ | refine VC.scope ?_ | refine VO.go (VO.nil ?_) | refine VO.go (VO.ld 0 rfl rfl rfl rfl ?_)))
  exact VC.ret (Ret.int 4 rfl rfl rfl Ent.refl ⟨rfl, rfl⟩)
theorem copy_none (Fr : Nat → Prop) (w : World) {x : Value} (h : NoneAt Fr w x) : Tri Try.prog 22 [x] Fr w [] (fun v L => v = .pointer none ∧ L = []) := by
  refine Tri.of 15 Try.func22 rfl (by kernel_rfl) tabOk rfl rfl ?_
  (repeat (first | refine VC.seq ?_ | refine VC.region ?_ | refine VC.block ?_ | refine VC.label ?_ | refine VC.scope ?_ | refine VO.go (VO.nil ?_) | refine VO.go (VO.ld 0 rfl rfl rfl rfl ?_)))
  refine VO.go (VO.callV' (fun Fr w hF hs _ => none_any Fr w (h.of hF hs)) rfl (VO.go (VO.nil (VC.condT rfl ?_))))
  (repeat (first | refine VC.seq ?_ | refine VC.region ?_ | refine VC.block ?_ | refine VC.label ?_ | refine VC.scope ?_ | refine VO.go (VO.nil ?_) | refine VO.go (VO.ld 0 rfl rfl rfl rfl ?_)))
  exact VC.ret (Ret.tmp 2 rfl rfl Ent.refl ⟨rfl, rfl⟩)

def pieceO : Option Nat → List HP
  | none => []
  | some p => [pt p zeroA 75]
theorem noneAt_in {Fr : Nat → Prop} {w : World} (M : List HP) {y : Option Nat} (hs : SatIn Fr (M ++ pieceO y) w) : NoneAt Fr w (.pointer (y.map fun p => ⟨p, 0, none⟩)) := by
  cases y with
  | none => exact .inl rfl
  | some p => exact .inr ⟨p, rfl, hs.blk (t := 75) M.length (by simp [pieceO])⟩

set_option maxHeartbeats 1000000 in
set_option maxRecDepth 100000 in
theorem none_law (Fr : Nat → Prop) (w : World) (c : ConfM) (ca : Option Addr) (cc : Nat) (x : ActM) (hq : IntsIn Fr w ca c.qs) (hcc : c.qs.length ≤ cc) :
    Tri Try.prog 6 [.agg (c.cells ca cc).toArray, .agg x.cells.toArray] Fr w [] (fun v L => v = .bool true ∧ L = []) := by
  refine Tri.of 132 Try.func6 rfl (by kernel_rfl) tabOk rfl rfl ?_
  refine VC.seq (VC.region (VO.go (VO.boxA (vs := c.cells ca cc) rfl fun cb => VO.go (VO.boxA (vs := x.cells) rfl fun b => VO.go (VO.nil ?_)))))
  (repeat (first | refine VC.seq ?_ | refine VC.region ?_ | refine VC.block ?_ | refine VC.label ?_ | refine VC.scope ?_ | refine VO.go (VO.nil ?_) | refine VO.go (VO.ld 0 rfl rfl rfl rfl ?_) | refine VO.go (VO.ld 1 rfl rfl rfl rfl ?_)))
  refine VO.go (VO.split 18 rfl rfl (fun h0 => VO.go (VO.nil (VC.condT rfl ?_))) (fun h0 => ?_))
  · (repeat (first | refine VC.seq ?_ | refine VC.region ?_ | refine VC.block ?_ | refine VC.label ?_ | refine VC.scope ?_ | refine VO.go (VO.nil ?_) | refine VO.go (VO.ld 0 rfl rfl rfl rfl ?_)))
    refine VO.go (VO.callV (fun Fr w => offered_spec Fr w) rfl (VO.go (VO.nil ?_)))
    exact VC.ret (Ret.bool 4 rfl rfl rfl Imp.nil.ent ⟨rfl, rfl⟩)
  have h0 := of_decide_eq_false h0
  refine VO.go (VO.ldA 0 x.cells rfl rfl rfl rfl ?_)
  refine VO.go (VO.buildSlice (n := 1) (pv := [(0, .agg x.cells.toArray)]) x.cells rfl rfl rfl rfl (by decide) (fill_one rfl rfl rfl) fun sb => ?_)
  refine VO.go (VO.callV' (fun Fr w hF _ hs => great_spec Fr w _ 1 [x] 1 (ActsIn.blk1 (hs.blk 0 rfl))) rfl (VO.go (VO.nil ?_)))
  refine VC.cond rfl (fun h1 => ?_) (fun h1 => VC.skip ?_)
  · (repeat (first | refine VC.seq ?_ | refine VC.region ?_ | refine VC.block ?_ | refine VC.label ?_ | refine VC.scope ?_ | refine VO.go (VO.nil ?_) | refine VO.go (VO.ld 0 rfl rfl rfl rfl ?_)))
    refine VO.go (VO.callV (fun Fr w => offered_spec Fr w) rfl (VO.go (VO.nil ?_)))
    exact VC.ret (Ret.bool 4 rfl rfl rfl Imp.nil.ent ⟨rfl, rfl⟩)
  have hmn : x.mn = 0 := by
    simp only [greatM, List.any_cons, List.any_nil, Bool.or_false, Bool.or_eq_false_iff, ActM.bad, decide_eq_false_iff_not] at h1
    omega
  obtain ⟨kind, f, ma, mn, mc, now⟩ := x
  dsimp only at hmn
  subst hmn
  (repeat (first | refine VC.seq ?_ | refine VC.region ?_ | refine VC.block ?_ | refine VC.label ?_ | refine VC.scope ?_ | refine VO.go (VO.nil ?_) | refine VO.go (VO.ld 0 rfl rfl rfl rfl ?_)))
  refine VC.loop (σ := Nat × Option Nat) (fun y => [(2, .pointer (some ⟨cb, 0, none⟩)), (3, .pointer (some ⟨b, 0, none⟩)), (5, .pointer (y.2.map fun p => ⟨p, 0, none⟩)), (6, .int .i64 y.1)]) (fun y => pt b (ActM.cells ⟨kind, f, ma, 0, mc, now⟩) 64 :: pt cb (c.cells ca cc) 24 :: pieceO y.2) (fun y => y.1 ≤ 2) (fun y => 2 - y.1) (0, none) (by show 0 ≤ 2; omega) (Sub.cons rfl (Sub.cons rfl (Sub.cons rfl (Sub.cons rfl (Sub.nil _))))) Imp.tl.ent ?_
  rintro ⟨t, y⟩ ht
  dsimp only at ht ⊢
  (repeat (first | refine VC.seq ?_ | refine VC.region ?_ | refine VC.block ?_ | refine VC.label ?_ | refine VC.scope ?_ | refine VO.go (VO.nil ?_) | refine VO.go (VO.ld 0 rfl rfl rfl rfl ?_)))
  refine VC.condP rfl (fun h2 => VC.skip ?_) (fun h2 => VC.exit ?_)
  · have ht2 : t < 2 := by omega
    have hM : ∀ {Fr : Nat → Prop} {w : World} {z : Nat}, SatIn Fr (pt z (fmc fmz) 50 :: pt b (ActM.cells ⟨kind, f, ma, 0, mc, now⟩) 64 :: pt cb (c.cells ca cc) 24 :: pieceO y) w → NoneAt Fr w (.pointer (y.map fun p => ⟨p, 0, none⟩)) := fun {Fr w z} hs => noneAt_in [pt z (fmc fmz) 50, pt b (ActM.cells ⟨kind, f, ma, 0, mc, now⟩) 64, pt cb (c.cells ca cc) 24] hs
    (repeat (first | refine VC.seq ?_ | refine VC.region ?_ | refine VC.block ?_ | refine VC.label ?_ | refine VC.scope ?_ | refine VO.go (VO.nil ?_) | refine VO.go (VO.ld 0 rfl rfl rfl rfl ?_)))
    refine VO.go (VO.callV' (fun Fr w hF _ hs => next_none Fr w now (noneAt_in [pt b (ActM.cells ⟨kind, f, ma, 0, mc, now⟩) 64, pt cb (c.cells ca cc) 24] hs)) rfl ?_)
    refine VO.go (VO.alloc rfl fun z => VO.go (VO.stA (vs := fmc fmz) (cs' := fmc fmz) 0 rfl rfl rfl rfl (Nat.le_refl _) rfl rfl rfl (VO.go (VO.nil ?_))))
    (repeat (first | refine VC.seq ?_ | refine VC.region ?_ | refine VC.block ?_ | refine VC.label ?_ | refine VC.scope ?_ | refine VO.go (VO.nil ?_) | refine VO.go (VO.ld 0 rfl rfl rfl rfl ?_) | refine VO.go (VO.ld 1 rfl rfl rfl rfl ?_)))
    refine VO.go (VO.callV' (fun Fr w hF _ hs => waits_none Fr w f.client (hM hs)) rfl (VO.go (VO.nil ?_)))
    (repeat (first | refine VC.seq ?_ | refine VC.region ?_ | refine VC.block ?_ | refine VC.label ?_ | refine VC.scope ?_ | refine VO.go (VO.nil ?_) | refine VO.go (VO.ld 0 rfl rfl rfl rfl ?_) | refine VO.go (VO.ld 1 rfl rfl rfl rfl ?_)))
    refine VO.go (VO.ldA 1 (fmc (f, (ma, mc))) rfl rfl rfl rfl ?_)
    refine VO.go (VO.callV' (fun Fr w hF _ hs => may_none Fr w (f, (ma, mc)) (hM hs)) rfl (VO.go (VO.yes 48 false rfl rfl ?_)))
    refine VO.go (VO.ldA 1 (fmc (f, (ma, mc))) rfl rfl rfl rfl ?_)
    (repeat (first | refine VC.seq ?_ | refine VC.region ?_ | refine VC.block ?_ | refine VC.label ?_ | refine VC.scope ?_ | refine VO.go (VO.nil ?_) | refine VO.go (VO.ld 0 rfl rfl rfl rfl ?_) | refine VO.go (VO.ld 1 rfl rfl rfl rfl ?_)))
    refine VO.go (VO.callV' (fun Fr w hF _ hs => offer_none Fr w (f, (ma, mc)) now (hM hs)) rfl (VO.go (VO.yes 57 false rfl rfl (VO.go (VO.yes 60 false rfl rfl (VO.go (VO.yes 65 false rfl rfl (VO.go (VO.yes 69 false rfl rfl (VO.go (VO.yes 72 false rfl rfl ?_)))))))))))
    (repeat (first | refine VC.seq ?_ | refine VC.region ?_ | refine VC.block ?_ | refine VC.label ?_ | refine VC.scope ?_ | refine VO.go (VO.nil ?_) | refine VO.go (VO.ld 0 rfl rfl rfl rfl ?_) | refine VO.go (VO.ld 1 rfl rfl rfl rfl ?_)))
    refine VO.go (VO.callV' (fun Fr w hF _ hs => barred_none Fr w f.client f.seq f.try_ (hM hs)) rfl (VO.go (VO.yes 85 false rfl rfl ?_)))
    refine VO.go (VO.callV' (fun Fr w hF _ hs => bar_none Fr w 0 1 1 (hM hs)) rfl (VO.go (VO.yes 90 false rfl rfl ?_)))
    refine VO.go (VO.callV' (fun Fr w hF _ hs => flush_none Fr w (hM hs)) rfl (VO.go (VO.yes 96 false rfl rfl ?_)))
    refine VO.go (VO.callV' (fun Fr w hF _ hs => len_none Fr w 0 (hM hs)) rfl (VO.go (VO.yes 101 false rfl rfl ?_)))
    refine VO.go (VO.callV' (fun Fr w hF _ hs => served_none Fr w 0 (hM hs)) rfl (VO.go (VO.yes 106 false rfl rfl ?_)))
    refine VO.go (VO.callV' (fun Fr w hF _ hs => copy_none Fr w (hM hs)) rfl (VO.go (VO.nil ?_)))
    refine VC.condF rfl (VC.skip ?_)
    (repeat (first | refine VC.seq ?_ | refine VC.region ?_ | refine VC.block ?_ | refine VC.label ?_ | refine VC.scope ?_ | refine VO.go (VO.nil ?_) | refine VO.go (VO.ld 0 rfl rfl rfl rfl ?_)))
    refine VO.go (VO.light (light_build (pv := []) zeroA rfl rfl rfl rfl rfl) (VO.go (VO.boxA (vs := zeroA) rfl fun p => VO.go (VO.nil ?_))))
    (repeat (first | refine VC.seq ?_ | refine VC.region ?_ | refine VC.block ?_ | refine VC.label ?_ | refine VC.scope ?_ | refine VO.go (VO.nil ?_) | refine VO.go (VO.ld 0 rfl rfl rfl rfl ?_)))
    refine VO.go (VO.add rfl rfl (by omega) (by omega) ?_)
    (repeat (first | refine VC.seq ?_ | refine VC.region ?_ | refine VC.block ?_ | refine VC.label ?_ | refine VC.scope ?_ | refine VO.go (VO.nil ?_) | refine VO.go (VO.ld 0 rfl rfl rfl rfl ?_)))
    refine ⟨(t + 1, some p), ht2, by dsimp only; omega, Sub.cons rfl (Sub.cons rfl (Sub.cons rfl (Sub.cons rfl (Sub.nil _)))), ?_⟩
    refine (Imp.pick 2 rfl ?_).ent
    refine Imp.pick 2 rfl ?_
    exact Imp.app (L := [_]) (M := [_]) Imp.refl Imp.nil
  · (repeat (first | refine VC.seq ?_ | refine VC.region ?_ | refine VC.block ?_ | refine VC.label ?_ | refine VC.scope ?_ | refine VO.go (VO.nil ?_) | refine VO.go (VO.ld 0 rfl rfl rfl rfl ?_)))
    refine VO.go (VO.ldA 1 (c.cells ca cc) rfl rfl rfl rfl ?_)
    refine VO.go (VO.call (Lc := []) (fun Fr w hF hs _ => Adm.new_spec Fr w c ca cc (ints_of hq hF hs) trivial hcc) rfl rfl ?_)
    intro v L hv
    by_cases hc : c = fitM c
    · rw [if_pos hc] at hv
      obtain ⟨p, rfl, rfl⟩ := hv
      have hck : checkM c = 0 := by rw [checkM, if_pos hc]
      (repeat (first | refine VC.seq ?_ | refine VC.region ?_ | refine VC.block ?_ | refine VC.label ?_ | refine VC.scope ?_ | refine VO.go (VO.nil ?_) | refine VO.go (VO.ld 0 rfl rfl rfl rfl ?_)))
      refine VO.go (VO.ldA 2 (c.cells ca cc) rfl rfl rfl rfl ?_)
      refine VO.go (VO.callV' (fun Fr w hF hs _ => rcheck_spec Fr w c ca cc (ints_of hq hF hs) (by omega)) rfl ?_)
      refine VO.go (VO.yes 122 true rfl (by rw [hck]; rfl) (VO.go (VO.yes 129 true rfl rfl ?_)))
      refine VO.go (VO.callV (fun Fr w => offered_spec Fr w) rfl (VO.go (VO.nil ?_)))
      exact VC.ret (Ret.bool 4 rfl rfl rfl Imp.nil.ent ⟨rfl, rfl⟩)
    · rw [if_neg hc] at hv
      obtain ⟨rfl, rfl⟩ := hv
      have hck : checkM c = 2 := by rw [checkM, if_neg hc]
      (repeat (first | refine VC.seq ?_ | refine VC.region ?_ | refine VC.block ?_ | refine VC.label ?_ | refine VC.scope ?_ | refine VO.go (VO.nil ?_) | refine VO.go (VO.ld 0 rfl rfl rfl rfl ?_)))
      refine VO.go (VO.ldA 1 (c.cells ca cc) rfl rfl rfl rfl ?_)
      refine VO.go (VO.callV' (fun Fr w hF hs _ => rcheck_spec Fr w c ca cc (ints_of hq hF hs) (by omega)) rfl ?_)
      refine VO.go (VO.yes 122 true rfl (by rw [hck]; rfl) (VO.go (VO.yes 129 true rfl rfl ?_)))
      refine VO.go (VO.callV (fun Fr w => offered_spec Fr w) rfl (VO.go (VO.nil ?_)))
      exact VC.ret (Ret.bool 4 rfl rfl rfl Imp.nil.ent ⟨rfl, rfl⟩)
end Go.Proofs.Ytoinocihlfmnnaa.Adm
