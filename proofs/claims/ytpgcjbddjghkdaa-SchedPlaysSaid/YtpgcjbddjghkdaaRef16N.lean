/- The reference's scheduler: how it is made. No condition but that there are few quanta. -/
import Derived.Test.YtpgcjbddjghkdaaRef16
namespace Go.Proofs.Ytpgcjbddjghkdaa.Ref16
open Go Go.Proofs.Ytpgcjbddjghkdaa.Vg Go.Proofs.Ytpgcjbddjghkdaa.T Go.Proofs.Ytpgcjbddjghkdaa.Api Go.Proofs.Ytpgcjbddjghkdaa.Sched
set_option linter.unusedSimpArgs false
set_option linter.unusedVariables false
attribute [local irreducible] VO VC VA

def preOk (qs : List Int) (cap : Int) : Bool := decide (1 ≤ qs.length) && decide (qs.length ≤ 4) && decide (1 ≤ cap) && decide (cap ≤ 16)
theorem pre_new {qs : List Int} {cap : Int} : newOk qs cap = (preOk qs cap && qs.all quantumOk) := rfl
def newRf (a : Option Addr) (qs : List Int) (cap : Int) (v : Value) (L : List HP) : Prop := if newOk qs cap = true then ∃ p, v = .tuple #[.pointer (some ⟨p, 0, none⟩), .int .i64 0] ∧ L = [rfH p a (SchM.new qs cap)] else v = .tuple #[.pointer none, .int .i64 2] ∧ L = []
theorem rep_flat {v : Value} (n : Nat) : (List.replicate n [v]).flatten = List.replicate n v := by
  induction n with
  | zero => rfl
  | succ n ih => rw [List.replicate_succ, List.flatten_cons, ih, List.replicate_succ]; rfl
theorem new_ok {a : Option Addr} {qs : List Int} {cap : Int} (s : RfS) (h : newOk qs cap = true) (hu : s.ua = a) (hr : s.rows = List.replicate qs.length RL.none) : RfOk (SchM.new qs cap) a s := by
  refine ⟨SchM.new_wf h, hu, by simp [hr, SchM.new], fun k r hk => ?_, fun k r c hk hc => ?_⟩
  · rw [hr] at hk
    obtain rfl := List.eq_of_mem_replicate (List.mem_of_getElem? hk)
    exact RL.none_ok
  · rw [hr] at hk
    obtain rfl := List.eq_of_mem_replicate (List.mem_of_getElem? hk)
    obtain ⟨q, _, rfl⟩ := List.mem_map.1 (List.mem_of_getElem? hc)
    rfl
theorem pure_rows : ∀ n : Nat, Imp [] ((List.replicate n (RL.none : FL)).map fun r => r.h 44)
  | 0 => Imp.refl
  | n + 1 => by rw [List.replicate_succ, List.map_cons]; exact Imp.pure trivial (pure_rows n)

set_option maxRecDepth 100000 in
theorem new_spec (Fr : Nat → Prop) (w : World) (a : Option Addr) (qc : Nat) (qs : List Int) (cap : Int) (hq : IntsIn Fr w a qs) (h6 : qs.length ≤ 6) :
    Tri Try.prog 26 [.slice a qs.length qc, .int .i64 cap] Fr w [] (newRf a qs cap) := by
  refine Tri.of 57 Try.func26 rfl (by kernel_rfl) tabOk rfl rfl ?_
  refine VC.seq (VC.region (VO.go (VO.nil (VC.seq (VC.region (VO.go (VO.nil ?_)))))))
  refine VC.meet (σ := Bool) (fun ok => [(0, .slice a qs.length qc), (1, .int .i64 cap), (6, .int .i64 qs.length), (7, .bool ok)]) (fun _ => []) (fun ok => ok = preOk qs cap) ?_ ?_
  · refine VC.region ?_
    refine VO.go (VO.split 13 rfl rfl (fun h1 => ?_) (fun h1 => VO.go (VO.yes 17 false rfl rfl (VO.go (VO.yes 21 false rfl rfl (VO.go (VO.nil ?_)))))))
    · have h1 := of_decide_eq_true h1
      refine VO.go (VO.split 17 rfl rfl (fun h2 => ?_) (fun h2 => VO.go (VO.yes 21 false rfl rfl (VO.go (VO.nil ?_)))))
      · have h2 := of_decide_eq_true h2
        refine VO.go (VO.split 21 rfl rfl (fun h3 => ?_) (fun h3 => VO.go (VO.nil ?_)))
        · have h3 := of_decide_eq_true h3
          refine VO.go (VO.nil ⟨_, ?_, Sub.cons rfl (Sub.cons rfl (Sub.cons rfl (Sub.cons rfl (Sub.nil _)))), Ent.refl⟩)
          have h1' : 1 ≤ qs.length := by omega
          have h2' : qs.length ≤ 4 := by omega
          simp [preOk, h1', h2', h3]
        · have h3 := of_decide_eq_false h3
          refine ⟨false, ?_, Sub.cons rfl (Sub.cons rfl (Sub.cons rfl (Sub.cons rfl (Sub.nil _)))), Ent.refl⟩
          simp [preOk, h3]
      · have h2 := of_decide_eq_false h2
        have h2' : ¬ qs.length ≤ 4 := by omega
        refine ⟨false, ?_, Sub.cons rfl (Sub.cons rfl (Sub.cons rfl (Sub.cons rfl (Sub.nil _)))), Ent.refl⟩
        simp [preOk, h2']
    · have h1 := of_decide_eq_false h1
      have h1' : ¬ 1 ≤ qs.length := by omega
      refine ⟨false, ?_, Sub.cons rfl (Sub.cons rfl (Sub.cons rfl (Sub.cons rfl (Sub.nil _)))), Ent.refl⟩
      simp [preOk, h1']
  rintro ok hok
  (repeat (first | refine VC.seq ?_ | refine VC.region ?_ | refine VC.block ?_ | refine VC.label ?_ | refine VC.scope ?_ | refine VO.go (VO.nil ?_) | refine VO.go (VO.ld 0 rfl rfl rfl rfl ?_)))
  refine VC.loop (σ := Nat × Bool) (fun x => [(0, .slice a qs.length qc), (1, .int .i64 cap), (6, .int .i64 qs.length), (7, .bool x.2), (8, .int .i64 x.1)]) (fun _ => []) (fun x => x.1 ≤ qs.length ∧ x.2 = (preOk qs cap && (qs.take x.1).all quantumOk)) (fun x => 6 - x.1) (0, ok) ⟨Nat.zero_le _, by simp [hok]⟩ (Sub.cons rfl (Sub.cons rfl (Sub.cons rfl (Sub.cons rfl (Sub.cons rfl (Sub.nil _)))))) Ent.refl ?_
  clear hok ok
  rintro ⟨i, ok⟩ ⟨hi, hok⟩
  dsimp only at hi hok ⊢
  (repeat (first | refine VC.seq ?_ | refine VC.region ?_ | refine VC.block ?_ | refine VC.label ?_ | refine VC.scope ?_ | refine VO.go (VO.nil ?_) | refine VO.go (VO.ld 0 rfl rfl rfl rfl ?_)))
  refine VC.condP rfl (fun h1 => VC.skip ?_) (fun h1 => VC.exit ?_)
  · have hi2 : i < qs.length := by omega
    obtain ⟨b, off, ha, hF, hcell⟩ := hq.at_ (fun e => by rw [e] at hi2; simp at hi2)
    subst ha
    have hqi := List.getElem?_eq_getElem hi2
    have htake : qs.take (i + 1) = qs.take i ++ [qs[i]] := by rw [List.take_add_one, hqi]; rfl
    generalize hqv : qs[i] = q at hqi htake
    have hc : w.cell? ⟨b, off + i * 1, none⟩ = some (.int .i64 q) := by rw [Nat.mul_one]; exact hcell i _ hqi
    have hall : (qs.take (i + 1)).all quantumOk = ((qs.take i).all quantumOk && quantumOk q) := by rw [htake, List.all_append]; simp
    (repeat (first | refine VC.seq ?_ | refine VC.region ?_ | refine VC.block ?_ | refine VC.label ?_ | refine VC.scope ?_ | refine VO.go (VO.nil ?_) | refine VO.go (VO.ld 0 rfl rfl rfl rfl ?_)))
    refine VO.go (VO.split 31 rfl rfl (fun h2 => ?_) (fun h2 => VO.go (VO.yes 38 false rfl rfl (VO.go (VO.nil ?_)))))
    · subst h2
      refine VO.go (VO.light (light_idx i rfl rfl rfl rfl rfl rfl hi2) ?_)
      refine VO.go (VO.load rfl rfl (RdL.rd (v := .int .i64 q) hF hc) ?_)
      refine VO.go (VO.split 38 rfl rfl (fun h3 => ?_) (fun h3 => VO.go (VO.nil ?_)))
      · have h3 := of_decide_eq_true h3
        refine VO.go (VO.light (light_idx i rfl rfl rfl rfl rfl rfl hi2) ?_)
        refine VO.go (VO.load rfl rfl (RdL.rd (v := .int .i64 q) hF hc) (VO.go (VO.nil ?_)))
        (repeat (first | refine VC.seq ?_ | refine VC.region ?_ | refine VC.block ?_ | refine VC.label ?_ | refine VC.scope ?_ | refine VO.go (VO.nil ?_) | refine VO.go (VO.ld 0 rfl rfl rfl rfl ?_)))
        refine VO.go (VO.add rfl rfl (by omega) (by omega) ?_)
        (repeat (first | refine VC.seq ?_ | refine VC.region ?_ | refine VC.block ?_ | refine VC.label ?_ | refine VC.scope ?_ | refine VO.go (VO.nil ?_) | refine VO.go (VO.ld 0 rfl rfl rfl rfl ?_)))
        refine ⟨(i + 1, decide (q ≤ 65536)), ⟨hi2, ?_⟩, by dsimp only; omega, Sub.cons rfl (Sub.cons rfl (Sub.cons rfl (Sub.cons rfl (Sub.cons rfl (Sub.nil _))))), Ent.refl⟩
        dsimp only
        rw [hall, ← Bool.and_assoc, ← hok]
        simp [quantumOk, h3]
      · have h3 := of_decide_eq_false h3
        (repeat (first | refine VC.seq ?_ | refine VC.region ?_ | refine VC.block ?_ | refine VC.label ?_ | refine VC.scope ?_ | refine VO.go (VO.nil ?_) | refine VO.go (VO.ld 0 rfl rfl rfl rfl ?_)))
        refine VO.go (VO.add rfl rfl (by omega) (by omega) ?_)
        (repeat (first | refine VC.seq ?_ | refine VC.region ?_ | refine VC.block ?_ | refine VC.label ?_ | refine VC.scope ?_ | refine VO.go (VO.nil ?_) | refine VO.go (VO.ld 0 rfl rfl rfl rfl ?_)))
        refine ⟨(i + 1, false), ⟨hi2, ?_⟩, by dsimp only; omega, Sub.cons rfl (Sub.cons rfl (Sub.cons rfl (Sub.cons rfl (Sub.cons rfl (Sub.nil _))))), Ent.refl⟩
        dsimp only
        rw [hall]
        simp [quantumOk, h3]
    · subst h2
      (repeat (first | refine VC.seq ?_ | refine VC.region ?_ | refine VC.block ?_ | refine VC.label ?_ | refine VC.scope ?_ | refine VO.go (VO.nil ?_) | refine VO.go (VO.ld 0 rfl rfl rfl rfl ?_)))
      refine VO.go (VO.add rfl rfl (by omega) (by omega) ?_)
      (repeat (first | refine VC.seq ?_ | refine VC.region ?_ | refine VC.block ?_ | refine VC.label ?_ | refine VC.scope ?_ | refine VO.go (VO.nil ?_) | refine VO.go (VO.ld 0 rfl rfl rfl rfl ?_)))
      refine ⟨(i + 1, false), ⟨hi2, ?_⟩, by dsimp only; omega, Sub.cons rfl (Sub.cons rfl (Sub.cons rfl (Sub.cons rfl (Sub.cons rfl (Sub.nil _))))), Ent.refl⟩
      dsimp only
      rw [hall, ← Bool.and_assoc, ← hok]; rfl
  have hi2 : i = qs.length := by omega
  subst hi2
  rw [List.take_length, ← pre_new] at hok
  subst hok
  (repeat (first | refine VC.seq ?_ | refine VC.region ?_ | refine VC.block ?_ | refine VC.label ?_ | refine VC.scope ?_ | refine VO.go (VO.nil ?_) | refine VO.go (VO.ld 0 rfl rfl rfl rfl ?_)))
  refine VC.condN rfl (fun h2 => ?_) (fun h2 => VC.skip ?_)
  · (repeat (first | refine VC.seq ?_ | refine VC.region ?_ | refine VC.block ?_ | refine VC.label ?_ | refine VC.scope ?_ | refine VO.go (VO.nil ?_) | refine VO.go (VO.ld 0 rfl rfl rfl rfl ?_)))
    refine VC.ret (Ret.tmp2 4 5 rfl rfl rfl Ent.refl ?_)
    unfold newRf; rw [if_neg (by rw [h2]; simp)]; exact ⟨rfl, rfl⟩
  have hwf := SchM.new_wf h2
  have hn4 : qs.length ≤ 4 := by simpa [SchM.new] using hwf.n1
  refine VC.meet (σ := Nat × Nat × Nat × Nat) (fun x => [(4, .pointer (some ⟨x.1, 0, none⟩)), (5, .int .i64 0)]) (fun x => [rfH x.1 a (SchM.new qs cap)]) (fun _ => True) ?_ ?_
  rotate_left
  · rintro ⟨p, qb, cb, sb⟩ _
    refine VC.ret (Ret.tmp2 4 5 rfl rfl rfl Ent.refl ?_)
    unfold newRf; rw [if_pos h2]; exact ⟨p, rfl, rfl⟩
  have hcap : (cap.toNat : Int) = cap := by have := hwf.cap0; simp [SchM.new] at this; omega
  have fin : ∀ {p qb cb sb : Nat}, Imp [pt p [.int .i64 cap, .slice a qs.length qc, .slice (some ⟨qb, 0, none⟩) qs.length qs.length, .slice (some ⟨cb, 0, none⟩) qs.length qs.length, .slice (some ⟨sb, 0, none⟩) qs.length qs.length, .int .i64 0, .bool true] 91, pt qb (List.replicate qs.length [Value.slice none 0 0]).flatten 56, pt cb (List.replicate qs.length [Value.int .i64 0]).flatten 3, pt sb (List.replicate qs.length [Value.int .i64 0]).flatten 3] [rfH p a (SchM.new qs cap)] := fun {p qb cb sb} => by
    refine rf_shut ⟨a, qc, qb, qs.length, cb, qs.length, sb, qs.length, List.replicate qs.length RL.none⟩ (new_ok _ h2 rfl rfl) ?_
    refine Imp.trans (Imp.app (L := [_, _, _, _]) (M := [_, _, _, _]) Imp.refl (pure_rows qs.length)) (Imp.of_eq ?_)
    simp only [rep_flat, List.cons_append, List.nil_append, rfL, rfC, crs, svs, rfR, SchM.new, List.map_map, List.length_map, hcap, List.map_replicate]
    congr 3
    · simp [Function.comp_def, clsNew, List.map_const']
    · simp [Function.comp_def, clsNew, List.map_const']
  refine VC.draw (ts 0 3 (.take 4 (.take 6 (.three 3 5 7 (.two 5 7 (.only 7 (.take 8 (.only 9 (ts 10 2 .nil)))) (.only 5 (.take 8 (.only 9 (ts 10 2 .nil))))) (.two 3 7 (.only 7 (.take 8 (.only 9 (ts 10 2 .nil)))) (.only 3 (.take 8 (.only 9 (ts 10 2 .nil))))) (.two 3 5 (.only 5 (.take 8 (.only 9 (ts 10 2 .nil)))) (.only 3 (.take 8 (.only 9 (ts 10 2 .nil))))))))) (by kernel_rfl) (by decide +kernel) ?_
  (repeat (first | refine VA.go (VA.nil ?_) | refine VA.go (VA.ld 0 rfl rfl rfl rfl rfl ?_)))
  refine VA.go (VA.three rfl rfl rfl rfl rfl rfl (OpT.makeSlice qs.length rfl rfl rfl rfl rfl (by omega) (by show 24 * qs.length ≤ _; omega)) rfl rfl rfl (OpT.makeSlice qs.length rfl rfl rfl rfl rfl (by omega) (by show 8 * qs.length ≤ _; omega)) rfl rfl rfl (OpT.makeSlice qs.length rfl rfl rfl rfl rfl (by omega) (by show 8 * qs.length ≤ _; omega)) (fun v L' _ => (by (try refine Pd.st ?_); (repeat (first | exact Pd.nil | exact Pd.fnil | refine Pd.inner ?_ | refine Pd.skip (by decide +kernel) ?_ | refine Pd.fcons (RdL.one 0 rfl rfl) ?_ | refine Pd.fcons (RdL.many 0 rfl rfl) ?_ | refine Pd.cons (RdL.one 0 rfl rfl) ?_ | refine Pd.cons (RdL.many 0 rfl rfl) ?_)))) (fun v L' _ => (by (try refine Pd.st ?_); (repeat (first | exact Pd.nil | exact Pd.fnil | refine Pd.inner ?_ | refine Pd.skip (by decide +kernel) ?_ | refine Pd.fcons (RdL.one 0 rfl rfl) ?_ | refine Pd.fcons (RdL.many 0 rfl rfl) ?_ | refine Pd.cons (RdL.one 0 rfl rfl) ?_ | refine Pd.cons (RdL.many 0 rfl rfl) ?_)))) (fun v L' _ => (by (try refine Pd.st ?_); (repeat (first | exact Pd.nil | exact Pd.fnil | refine Pd.inner ?_ | refine Pd.skip (by decide +kernel) ?_ | refine Pd.fcons (RdL.one 0 rfl rfl) ?_ | refine Pd.fcons (RdL.many 0 rfl rfl) ?_ | refine Pd.cons (RdL.one 0 rfl rfl) ?_ | refine Pd.cons (RdL.many 0 rfl rfl) ?_)))) ?_ ?_ ?_)
  · rintro _ _ ⟨qb, rfl, rfl⟩
    refine VA.go (VA.two rfl rfl rfl rfl rfl (OpT.makeSlice qs.length rfl rfl rfl rfl rfl (by omega) (by show 8 * qs.length ≤ _; omega)) rfl rfl rfl (OpT.makeSlice qs.length rfl rfl rfl rfl rfl (by omega) (by show 8 * qs.length ≤ _; omega)) (fun v L' _ => (by (try refine Pd.st ?_); (repeat (first | exact Pd.nil | exact Pd.fnil | refine Pd.inner ?_ | refine Pd.skip (by decide +kernel) ?_ | refine Pd.fcons (RdL.one 0 rfl rfl) ?_ | refine Pd.fcons (RdL.many 0 rfl rfl) ?_ | refine Pd.cons (RdL.one 0 rfl rfl) ?_ | refine Pd.cons (RdL.many 0 rfl rfl) ?_)))) (fun v L' _ => (by (try refine Pd.st ?_); (repeat (first | exact Pd.nil | exact Pd.fnil | refine Pd.inner ?_ | refine Pd.skip (by decide +kernel) ?_ | refine Pd.fcons (RdL.one 0 rfl rfl) ?_ | refine Pd.fcons (RdL.many 0 rfl rfl) ?_ | refine Pd.cons (RdL.one 0 rfl rfl) ?_ | refine Pd.cons (RdL.many 0 rfl rfl) ?_)))) ?_ ?_)
    · rintro _ _ ⟨cb, rfl, rfl⟩
      refine VA.go (VA.opP (OpT.makeSlice qs.length rfl rfl rfl rfl rfl (by omega) (by show 8 * qs.length ≤ _; omega)) rfl (fun v L' _ => (by (try refine Pd.st ?_); (repeat (first | exact Pd.nil | exact Pd.fnil | refine Pd.inner ?_ | refine Pd.skip (by decide +kernel) ?_ | refine Pd.fcons (RdL.one 0 rfl rfl) ?_ | refine Pd.fcons (RdL.many 0 rfl rfl) ?_ | refine Pd.cons (RdL.one 0 rfl rfl) ?_ | refine Pd.cons (RdL.many 0 rfl rfl) ?_)))) ?_)
      rintro _ _ ⟨sb, rfl, rfl⟩
      (repeat (first | refine VA.go (VA.nil ?_) | refine VA.go (VA.ld 0 rfl rfl rfl rfl rfl ?_)))
      refine VA.go (VA.light rfl (light_build (pv := [(0, .int .i64 cap), (1, .slice a qs.length qc), (2, .slice (some ⟨qb, 0, none⟩) qs.length qs.length), (3, .slice (some ⟨cb, 0, none⟩) qs.length qs.length), (4, .slice (some ⟨sb, 0, none⟩) qs.length qs.length), (6, .bool true)]) [.int .i64 cap, .slice a qs.length qc, .slice (some ⟨qb, 0, none⟩) qs.length qs.length, .slice (some ⟨cb, 0, none⟩) qs.length qs.length, .slice (some ⟨sb, 0, none⟩) qs.length qs.length, .int .i64 0, .bool true] rfl rfl rfl rfl rfl) ?_)
      refine VA.go (VA.opP (OpT.box rfl rfl) rfl (fun v L' _ => (by (try refine Pd.st ?_); (repeat (first | exact Pd.nil | exact Pd.fnil | refine Pd.inner ?_ | refine Pd.skip (by decide +kernel) ?_ | refine Pd.fcons (RdL.one 0 rfl rfl) ?_ | refine Pd.fcons (RdL.many 0 rfl rfl) ?_ | refine Pd.cons (RdL.one 0 rfl rfl) ?_ | refine Pd.cons (RdL.many 0 rfl rfl) ?_)))) ?_)
      rintro _ _ ⟨p, rfl, rfl⟩
      (repeat (first | refine VA.go (VA.nil ?_) | refine VA.go (VA.ld 0 rfl rfl rfl rfl rfl ?_)))
      exact ⟨(p, qb, cb, sb), trivial, Sub.cons rfl (Sub.cons rfl (Sub.nil _)), (Imp.trans (Imp.cons (Imp.pick 2 rfl (Imp.pick 1 rfl (Imp.pick 0 rfl Imp.refl)))) fin).ent⟩
    · rintro _ _ ⟨sb, rfl, rfl⟩
      refine VA.go (VA.opP (OpT.makeSlice qs.length rfl rfl rfl rfl rfl (by omega) (by show 8 * qs.length ≤ _; omega)) rfl (fun v L' _ => (by (try refine Pd.st ?_); (repeat (first | exact Pd.nil | exact Pd.fnil | refine Pd.inner ?_ | refine Pd.skip (by decide +kernel) ?_ | refine Pd.fcons (RdL.one 0 rfl rfl) ?_ | refine Pd.fcons (RdL.many 0 rfl rfl) ?_ | refine Pd.cons (RdL.one 0 rfl rfl) ?_ | refine Pd.cons (RdL.many 0 rfl rfl) ?_)))) ?_)
      rintro _ _ ⟨cb, rfl, rfl⟩
      (repeat (first | refine VA.go (VA.nil ?_) | refine VA.go (VA.ld 0 rfl rfl rfl rfl rfl ?_)))
      refine VA.go (VA.light rfl (light_build (pv := [(0, .int .i64 cap), (1, .slice a qs.length qc), (2, .slice (some ⟨qb, 0, none⟩) qs.length qs.length), (3, .slice (some ⟨cb, 0, none⟩) qs.length qs.length), (4, .slice (some ⟨sb, 0, none⟩) qs.length qs.length), (6, .bool true)]) [.int .i64 cap, .slice a qs.length qc, .slice (some ⟨qb, 0, none⟩) qs.length qs.length, .slice (some ⟨cb, 0, none⟩) qs.length qs.length, .slice (some ⟨sb, 0, none⟩) qs.length qs.length, .int .i64 0, .bool true] rfl rfl rfl rfl rfl) ?_)
      refine VA.go (VA.opP (OpT.box rfl rfl) rfl (fun v L' _ => (by (try refine Pd.st ?_); (repeat (first | exact Pd.nil | exact Pd.fnil | refine Pd.inner ?_ | refine Pd.skip (by decide +kernel) ?_ | refine Pd.fcons (RdL.one 0 rfl rfl) ?_ | refine Pd.fcons (RdL.many 0 rfl rfl) ?_ | refine Pd.cons (RdL.one 0 rfl rfl) ?_ | refine Pd.cons (RdL.many 0 rfl rfl) ?_)))) ?_)
      rintro _ _ ⟨p, rfl, rfl⟩
      (repeat (first | refine VA.go (VA.nil ?_) | refine VA.go (VA.ld 0 rfl rfl rfl rfl rfl ?_)))
      exact ⟨(p, qb, cb, sb), trivial, Sub.cons rfl (Sub.cons rfl (Sub.nil _)), (Imp.trans (Imp.cons (Imp.pick 2 rfl (Imp.pick 0 rfl (Imp.pick 0 rfl Imp.refl)))) fin).ent⟩
  · rintro _ _ ⟨cb, rfl, rfl⟩
    refine VA.go (VA.two rfl rfl rfl rfl rfl (OpT.makeSlice qs.length rfl rfl rfl rfl rfl (by omega) (by show 24 * qs.length ≤ _; omega)) rfl rfl rfl (OpT.makeSlice qs.length rfl rfl rfl rfl rfl (by omega) (by show 8 * qs.length ≤ _; omega)) (fun v L' _ => (by (try refine Pd.st ?_); (repeat (first | exact Pd.nil | exact Pd.fnil | refine Pd.inner ?_ | refine Pd.skip (by decide +kernel) ?_ | refine Pd.fcons (RdL.one 0 rfl rfl) ?_ | refine Pd.fcons (RdL.many 0 rfl rfl) ?_ | refine Pd.cons (RdL.one 0 rfl rfl) ?_ | refine Pd.cons (RdL.many 0 rfl rfl) ?_)))) (fun v L' _ => (by (try refine Pd.st ?_); (repeat (first | exact Pd.nil | exact Pd.fnil | refine Pd.inner ?_ | refine Pd.skip (by decide +kernel) ?_ | refine Pd.fcons (RdL.one 0 rfl rfl) ?_ | refine Pd.fcons (RdL.many 0 rfl rfl) ?_ | refine Pd.cons (RdL.one 0 rfl rfl) ?_ | refine Pd.cons (RdL.many 0 rfl rfl) ?_)))) ?_ ?_)
    · rintro _ _ ⟨qb, rfl, rfl⟩
      refine VA.go (VA.opP (OpT.makeSlice qs.length rfl rfl rfl rfl rfl (by omega) (by show 8 * qs.length ≤ _; omega)) rfl (fun v L' _ => (by (try refine Pd.st ?_); (repeat (first | exact Pd.nil | exact Pd.fnil | refine Pd.inner ?_ | refine Pd.skip (by decide +kernel) ?_ | refine Pd.fcons (RdL.one 0 rfl rfl) ?_ | refine Pd.fcons (RdL.many 0 rfl rfl) ?_ | refine Pd.cons (RdL.one 0 rfl rfl) ?_ | refine Pd.cons (RdL.many 0 rfl rfl) ?_)))) ?_)
      rintro _ _ ⟨sb, rfl, rfl⟩
      (repeat (first | refine VA.go (VA.nil ?_) | refine VA.go (VA.ld 0 rfl rfl rfl rfl rfl ?_)))
      refine VA.go (VA.light rfl (light_build (pv := [(0, .int .i64 cap), (1, .slice a qs.length qc), (2, .slice (some ⟨qb, 0, none⟩) qs.length qs.length), (3, .slice (some ⟨cb, 0, none⟩) qs.length qs.length), (4, .slice (some ⟨sb, 0, none⟩) qs.length qs.length), (6, .bool true)]) [.int .i64 cap, .slice a qs.length qc, .slice (some ⟨qb, 0, none⟩) qs.length qs.length, .slice (some ⟨cb, 0, none⟩) qs.length qs.length, .slice (some ⟨sb, 0, none⟩) qs.length qs.length, .int .i64 0, .bool true] rfl rfl rfl rfl rfl) ?_)
      refine VA.go (VA.opP (OpT.box rfl rfl) rfl (fun v L' _ => (by (try refine Pd.st ?_); (repeat (first | exact Pd.nil | exact Pd.fnil | refine Pd.inner ?_ | refine Pd.skip (by decide +kernel) ?_ | refine Pd.fcons (RdL.one 0 rfl rfl) ?_ | refine Pd.fcons (RdL.many 0 rfl rfl) ?_ | refine Pd.cons (RdL.one 0 rfl rfl) ?_ | refine Pd.cons (RdL.many 0 rfl rfl) ?_)))) ?_)
      rintro _ _ ⟨p, rfl, rfl⟩
      (repeat (first | refine VA.go (VA.nil ?_) | refine VA.go (VA.ld 0 rfl rfl rfl rfl rfl ?_)))
      exact ⟨(p, qb, cb, sb), trivial, Sub.cons rfl (Sub.cons rfl (Sub.nil _)), (Imp.trans (Imp.cons (Imp.pick 1 rfl (Imp.pick 1 rfl (Imp.pick 0 rfl Imp.refl)))) fin).ent⟩
    · rintro _ _ ⟨sb, rfl, rfl⟩
      refine VA.go (VA.opP (OpT.makeSlice qs.length rfl rfl rfl rfl rfl (by omega) (by show 24 * qs.length ≤ _; omega)) rfl (fun v L' _ => (by (try refine Pd.st ?_); (repeat (first | exact Pd.nil | exact Pd.fnil | refine Pd.inner ?_ | refine Pd.skip (by decide +kernel) ?_ | refine Pd.fcons (RdL.one 0 rfl rfl) ?_ | refine Pd.fcons (RdL.many 0 rfl rfl) ?_ | refine Pd.cons (RdL.one 0 rfl rfl) ?_ | refine Pd.cons (RdL.many 0 rfl rfl) ?_)))) ?_)
      rintro _ _ ⟨qb, rfl, rfl⟩
      (repeat (first | refine VA.go (VA.nil ?_) | refine VA.go (VA.ld 0 rfl rfl rfl rfl rfl ?_)))
      refine VA.go (VA.light rfl (light_build (pv := [(0, .int .i64 cap), (1, .slice a qs.length qc), (2, .slice (some ⟨qb, 0, none⟩) qs.length qs.length), (3, .slice (some ⟨cb, 0, none⟩) qs.length qs.length), (4, .slice (some ⟨sb, 0, none⟩) qs.length qs.length), (6, .bool true)]) [.int .i64 cap, .slice a qs.length qc, .slice (some ⟨qb, 0, none⟩) qs.length qs.length, .slice (some ⟨cb, 0, none⟩) qs.length qs.length, .slice (some ⟨sb, 0, none⟩) qs.length qs.length, .int .i64 0, .bool true] rfl rfl rfl rfl rfl) ?_)
      refine VA.go (VA.opP (OpT.box rfl rfl) rfl (fun v L' _ => (by (try refine Pd.st ?_); (repeat (first | exact Pd.nil | exact Pd.fnil | refine Pd.inner ?_ | refine Pd.skip (by decide +kernel) ?_ | refine Pd.fcons (RdL.one 0 rfl rfl) ?_ | refine Pd.fcons (RdL.many 0 rfl rfl) ?_ | refine Pd.cons (RdL.one 0 rfl rfl) ?_ | refine Pd.cons (RdL.many 0 rfl rfl) ?_)))) ?_)
      rintro _ _ ⟨p, rfl, rfl⟩
      (repeat (first | refine VA.go (VA.nil ?_) | refine VA.go (VA.ld 0 rfl rfl rfl rfl rfl ?_)))
      exact ⟨(p, qb, cb, sb), trivial, Sub.cons rfl (Sub.cons rfl (Sub.nil _)), (Imp.trans (Imp.cons (Imp.pick 0 rfl (Imp.pick 1 rfl (Imp.pick 0 rfl Imp.refl)))) fin).ent⟩
  · rintro _ _ ⟨sb, rfl, rfl⟩
    refine VA.go (VA.two rfl rfl rfl rfl rfl (OpT.makeSlice qs.length rfl rfl rfl rfl rfl (by omega) (by show 24 * qs.length ≤ _; omega)) rfl rfl rfl (OpT.makeSlice qs.length rfl rfl rfl rfl rfl (by omega) (by show 8 * qs.length ≤ _; omega)) (fun v L' _ => (by (try refine Pd.st ?_); (repeat (first | exact Pd.nil | exact Pd.fnil | refine Pd.inner ?_ | refine Pd.skip (by decide +kernel) ?_ | refine Pd.fcons (RdL.one 0 rfl rfl) ?_ | refine Pd.fcons (RdL.many 0 rfl rfl) ?_ | refine Pd.cons (RdL.one 0 rfl rfl) ?_ | refine Pd.cons (RdL.many 0 rfl rfl) ?_)))) (fun v L' _ => (by (try refine Pd.st ?_); (repeat (first | exact Pd.nil | exact Pd.fnil | refine Pd.inner ?_ | refine Pd.skip (by decide +kernel) ?_ | refine Pd.fcons (RdL.one 0 rfl rfl) ?_ | refine Pd.fcons (RdL.many 0 rfl rfl) ?_ | refine Pd.cons (RdL.one 0 rfl rfl) ?_ | refine Pd.cons (RdL.many 0 rfl rfl) ?_)))) ?_ ?_)
    · rintro _ _ ⟨qb, rfl, rfl⟩
      refine VA.go (VA.opP (OpT.makeSlice qs.length rfl rfl rfl rfl rfl (by omega) (by show 8 * qs.length ≤ _; omega)) rfl (fun v L' _ => (by (try refine Pd.st ?_); (repeat (first | exact Pd.nil | exact Pd.fnil | refine Pd.inner ?_ | refine Pd.skip (by decide +kernel) ?_ | refine Pd.fcons (RdL.one 0 rfl rfl) ?_ | refine Pd.fcons (RdL.many 0 rfl rfl) ?_ | refine Pd.cons (RdL.one 0 rfl rfl) ?_ | refine Pd.cons (RdL.many 0 rfl rfl) ?_)))) ?_)
      rintro _ _ ⟨cb, rfl, rfl⟩
      (repeat (first | refine VA.go (VA.nil ?_) | refine VA.go (VA.ld 0 rfl rfl rfl rfl rfl ?_)))
      refine VA.go (VA.light rfl (light_build (pv := [(0, .int .i64 cap), (1, .slice a qs.length qc), (2, .slice (some ⟨qb, 0, none⟩) qs.length qs.length), (3, .slice (some ⟨cb, 0, none⟩) qs.length qs.length), (4, .slice (some ⟨sb, 0, none⟩) qs.length qs.length), (6, .bool true)]) [.int .i64 cap, .slice a qs.length qc, .slice (some ⟨qb, 0, none⟩) qs.length qs.length, .slice (some ⟨cb, 0, none⟩) qs.length qs.length, .slice (some ⟨sb, 0, none⟩) qs.length qs.length, .int .i64 0, .bool true] rfl rfl rfl rfl rfl) ?_)
      refine VA.go (VA.opP (OpT.box rfl rfl) rfl (fun v L' _ => (by (try refine Pd.st ?_); (repeat (first | exact Pd.nil | exact Pd.fnil | refine Pd.inner ?_ | refine Pd.skip (by decide +kernel) ?_ | refine Pd.fcons (RdL.one 0 rfl rfl) ?_ | refine Pd.fcons (RdL.many 0 rfl rfl) ?_ | refine Pd.cons (RdL.one 0 rfl rfl) ?_ | refine Pd.cons (RdL.many 0 rfl rfl) ?_)))) ?_)
      rintro _ _ ⟨p, rfl, rfl⟩
      (repeat (first | refine VA.go (VA.nil ?_) | refine VA.go (VA.ld 0 rfl rfl rfl rfl rfl ?_)))
      exact ⟨(p, qb, cb, sb), trivial, Sub.cons rfl (Sub.cons rfl (Sub.nil _)), (Imp.trans (Imp.cons (Imp.pick 1 rfl (Imp.pick 0 rfl (Imp.pick 0 rfl Imp.refl)))) fin).ent⟩
    · rintro _ _ ⟨cb, rfl, rfl⟩
      refine VA.go (VA.opP (OpT.makeSlice qs.length rfl rfl rfl rfl rfl (by omega) (by show 24 * qs.length ≤ _; omega)) rfl (fun v L' _ => (by (try refine Pd.st ?_); (repeat (first | exact Pd.nil | exact Pd.fnil | refine Pd.inner ?_ | refine Pd.skip (by decide +kernel) ?_ | refine Pd.fcons (RdL.one 0 rfl rfl) ?_ | refine Pd.fcons (RdL.many 0 rfl rfl) ?_ | refine Pd.cons (RdL.one 0 rfl rfl) ?_ | refine Pd.cons (RdL.many 0 rfl rfl) ?_)))) ?_)
      rintro _ _ ⟨qb, rfl, rfl⟩
      (repeat (first | refine VA.go (VA.nil ?_) | refine VA.go (VA.ld 0 rfl rfl rfl rfl rfl ?_)))
      refine VA.go (VA.light rfl (light_build (pv := [(0, .int .i64 cap), (1, .slice a qs.length qc), (2, .slice (some ⟨qb, 0, none⟩) qs.length qs.length), (3, .slice (some ⟨cb, 0, none⟩) qs.length qs.length), (4, .slice (some ⟨sb, 0, none⟩) qs.length qs.length), (6, .bool true)]) [.int .i64 cap, .slice a qs.length qc, .slice (some ⟨qb, 0, none⟩) qs.length qs.length, .slice (some ⟨cb, 0, none⟩) qs.length qs.length, .slice (some ⟨sb, 0, none⟩) qs.length qs.length, .int .i64 0, .bool true] rfl rfl rfl rfl rfl) ?_)
      refine VA.go (VA.opP (OpT.box rfl rfl) rfl (fun v L' _ => (by (try refine Pd.st ?_); (repeat (first | exact Pd.nil | exact Pd.fnil | refine Pd.inner ?_ | refine Pd.skip (by decide +kernel) ?_ | refine Pd.fcons (RdL.one 0 rfl rfl) ?_ | refine Pd.fcons (RdL.many 0 rfl rfl) ?_ | refine Pd.cons (RdL.one 0 rfl rfl) ?_ | refine Pd.cons (RdL.many 0 rfl rfl) ?_)))) ?_)
      rintro _ _ ⟨p, rfl, rfl⟩
      (repeat (first | refine VA.go (VA.nil ?_) | refine VA.go (VA.ld 0 rfl rfl rfl rfl rfl ?_)))
      exact ⟨(p, qb, cb, sb), trivial, Sub.cons rfl (Sub.cons rfl (Sub.nil _)), (Imp.trans (Imp.cons (Imp.pick 0 rfl (Imp.pick 0 rfl (Imp.pick 0 rfl Imp.refl)))) fin).ent⟩
end Go.Proofs.Ytpgcjbddjghkdaa.Ref16
