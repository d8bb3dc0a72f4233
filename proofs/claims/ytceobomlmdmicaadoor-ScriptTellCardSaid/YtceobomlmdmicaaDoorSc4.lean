/- Layer 24: the program puts steps as a text. No condition but what the listed variables hold. -/
import Derived.Test.YtceobomlmdmicaaDoorSc3
namespace Go.Proofs.YtceobomlmdmicaaDoor.Scr
open Go Go.Proofs.YtceobomlmdmicaaDoor.Vg Go.Proofs.YtceobomlmdmicaaDoor.T Go.Proofs.YtceobomlmdmicaaDoor.Api Go.Proofs.YtceobomlmdmicaaDoor.LibC
set_option linter.unusedSimpArgs false
set_option linter.unusedVariables false
attribute [local irreducible] VO VC VA

theorem OpT.write {X : Cx} {e : Env} {L : List HP} {args : Array Operand} {tys : Array TypeId} {b : Nat} {s t : ByteArray} (hP : X.P = Tryd.prog) (i : Nat) (hL : L[i]? = some (txtH X.w0.heap.size b s)) (hnb : ∀ H ∈ L.eraseIdx i, NB 5 H) (hlen : s.size + t.size ≤ 140737488355328)
    (hargs : evs e args.toList = some [.pointer (some ⟨b, 0, none⟩), .string t]) :
    OpT X (.call ⟨.value (.func 20), args, tys⟩) e L (fun v L' => v = .tuple #[.int .i64 t.size, .nilIface] ∧ L' = L.set i (txtH X.w0.heap.size b (s ++ t))) :=
  OpT.mono (OpT.callXAt (ψ := fun v H' => v = .tuple #[.int .i64 t.size, .nilIface] ∧ H' = txtH X.w0.heap.size b (s ++ t)) i hL (fun Fl w hw hs => hP ▸ write_spec _ w _ b s t (low_or hnb hw hs) hlen) hargs (fun v L1 h => ⟨_, h.2, h.1, rfl⟩))
    fun v L' ⟨H', ⟨h1, h2⟩, h3⟩ => ⟨h1, by rw [h3, h2]⟩
theorem cat32 (n : Int) : (⟨#[32]⟩ : ByteArray) ++ numT n = toB (numL n) := ByteArray.ext (by simp [toB, numL, numT])
theorem cat32e (s : ByteArray) : (⟨#[32]⟩ : ByteArray) ++ encT s = toB (32 :: 58 :: encB s.data.toList) := ByteArray.ext (by simp [toB, encT])
theorem sp_toB : (⟨#[32]⟩ : ByteArray) = toB [32] := rfl
theorem num_size {n : Int} (h : isI n) : (numT n).size ≤ 21 := by
  have := Lib.itoa_length_le n h.1 h.2
  rw [numT_toB, toB_size]; omega

set_option maxRecDepth 100000 in
set_option maxHeartbeats 2000000 in
theorem put_spec (Fr : Nat → Prop) (w : World) {a : Option Addr} {cap : Nat} {l : List DoM} (h : RwIn doC 8 Fr w a l) (hl : l.length ≤ 3000) (hok : ∀ d ∈ l, d.Ok) (hT : TabF Fr w) (hK : KindsF Fr w) :
    Tri Tryd.prog 13 [.slice a l.length cap] Fr w [] (fun v L => v = .string (toB (putL l)) ∧ L = []) := by
  refine Tri.of 84 Tryd.func13 rfl (by kernel_rfl) tabOk rfl rfl ?_
  (repeat (first | refine VC.seq ?_ | refine VC.region ?_ | refine VC.block ?_ | refine VC.label ?_ | refine VC.scope ?_ | refine VO.go (VO.nil ?_) | refine VO.go (VO.ld 0 rfl rfl rfl rfl ?_)))
  refine VO.go (VO.allocB rfl fun b hB => ?_)
  refine VO.ent (L' := [txtH w.heap.size b (toB [])]) (Imp.bldF hB Imp.refl).ent ?_
  (repeat (first | refine VC.seq ?_ | refine VC.region ?_ | refine VC.block ?_ | refine VC.label ?_ | refine VC.scope ?_ | refine VO.go (VO.nil ?_) | refine VO.go (VO.ld 0 rfl rfl rfl rfl ?_)))
  refine VC.loop (σ := Nat) (fun i => [(3, .pointer (some ⟨b, 0, none⟩)), (8, .slice a l.length cap), (9, .int .i64 l.length), (10, .int .i64 i)]) (fun i => [txtH w.heap.size b (toB (putL (l.take i)))]) (fun i => i ≤ l.length) (fun i => l.length - i) 0
    (Nat.zero_le _) (Sub.cons rfl (Sub.cons rfl (Sub.cons rfl (Sub.cons rfl (Sub.nil _))))) Ent.refl ?_
  intro i hi
  (repeat (first | refine VC.seq ?_ | refine VC.region ?_ | refine VC.block ?_ | refine VC.label ?_ | refine VC.scope ?_ | refine VO.go (VO.nil ?_) | refine VO.go (VO.ld 0 rfl rfl rfl rfl ?_)))
  refine VC.condP rfl (fun h1 => VC.skip ?_) (fun h1 => VC.exit ?_)
  · have hi2 : i < l.length := by omega
    obtain ⟨d, hd⟩ : ∃ d, l[i]? = some d := ⟨_, List.getElem?_eq_getElem hi2⟩
    have hdo := hok d (List.mem_of_getElem? hd)
    have htk : putL (l.take (i + 1)) = putL (l.take i) ++ lineL d := by rw [List.take_add_one, hd]; simp [putL]
    have hpl : (putL (l.take i)).length ≤ 16500 * (l.take i).length := flatMap_len fun x hx => lineL_len (hok x (List.mem_of_mem_take hx))
    have hpl2 : (l.take i).length ≤ 3000 := by rw [List.length_take]; omega
    obtain ⟨fb, fo, rfl, ra, rc⟩ := RwIn.rd (X := ⟨Tryd.prog, tab, tabOk, 84, Fr, w⟩) h hd
    (repeat (first | refine VC.seq ?_ | refine VC.region ?_ | refine VC.block ?_ | refine VC.label ?_ | refine VC.scope ?_ | refine VO.go (VO.nil ?_) | refine VO.go (VO.ld 0 rfl rfl rfl rfl ?_)))
    refine VO.go (VO.light (light_idx i rfl rfl rfl rfl rfl rfl hi2) ?_)
    refine VO.go (VO.load rfl rfl (ra _ _ rfl rfl) ?_)
    refine VO.go (VO.alloc rfl fun db => ?_)
    refine VO.go (VO.stA (vs := doC d) 0 rfl rfl rfl rfl (Nat.le_refl _) rfl rfl rfl ?_)
    (repeat (first | refine VC.seq ?_ | refine VC.region ?_ | refine VC.block ?_ | refine VC.label ?_ | refine VC.scope ?_ | refine VO.go (VO.nil ?_) | refine VO.go (VO.ld 0 rfl rfl rfl rfl ?_)))
    refine VO.go (VO.callV (fun Fr w => isKind_spec Fr w d.kind) rfl ?_)
    (repeat (first | refine VC.seq ?_ | refine VC.region ?_ | refine VC.block ?_ | refine VC.label ?_ | refine VC.scope ?_ | refine VO.go (VO.nil ?_) | refine VO.go (VO.ld 0 rfl rfl rfl rfl ?_)))
    refine VC.condN rfl (fun h2 => VC.exit ?_) (fun h2 => VC.skip ?_)
    · have e : lineL d = [] := by unfold lineL; rw [h2]; rfl
      (repeat (first | refine VC.seq ?_ | refine VC.region ?_ | refine VC.block ?_ | refine VC.label ?_ | refine VC.scope ?_ | refine VO.go (VO.nil ?_) | refine VO.go (VO.ld 0 rfl rfl rfl rfl ?_)))
      refine VO.go (VO.add rfl rfl (by omega) (by omega) ?_)
      (repeat (first | refine VC.seq ?_ | refine VC.region ?_ | refine VC.block ?_ | refine VC.label ?_ | refine VC.scope ?_ | refine VO.go (VO.nil ?_) | refine VO.go (VO.ld 0 rfl rfl rfl rfl ?_)))
      refine ⟨i + 1, hi2, by dsimp only; omega, Sub.cons rfl (Sub.cons rfl (Sub.cons rfl (Sub.cons rfl (Sub.nil _)))), ?_⟩
      dsimp only
      rw [htk, e, List.append_nil]
      exact (Imp.pick 1 rfl Imp.nil).ent
    obtain ⟨k, hk, hk1, hk2⟩ := isK_nat h2
    have hwl := word_len k (by omega)
    have hline : lineL d = wordK k ++ (usesK k).flatMap (useT d) ++ [10] := by unfold lineL restL; rw [h2, hk]; rfl
    (repeat (first | refine VC.seq ?_ | refine VC.region ?_ | refine VC.block ?_ | refine VC.label ?_ | refine VC.scope ?_ | refine VO.go (VO.nil ?_) | refine VO.go (VO.ld 0 rfl rfl rfl rfl ?_)))
    refine VO.go (VO.light (light_idxA k rfl rfl rfl rfl rfl hk (by omega)) ?_)
    (repeat (first | refine VC.seq ?_ | refine VC.region ?_ | refine VC.block ?_ | refine VC.label ?_ | refine VC.scope ?_ | refine VO.go (VO.nil ?_) | refine VO.go (VO.ld 0 rfl rfl rfl rfl ?_)))
    refine VO.go (VO.load rfl rfl (RdL.blk hK (kinds_at (k := k) (j := 0) (by omega) rfl)) ?_)
    refine VO.go (VO.write rfl 1 rfl (nb_cons (NB.pt (by decide)) nb_nil) (by rw [toB_size, toB_size]; omega) rfl ?_)
    rw [toB_cat]
    (repeat (first | refine VC.seq ?_ | refine VC.region ?_ | refine VC.block ?_ | refine VC.label ?_ | refine VC.scope ?_ | refine VO.go (VO.nil ?_) | refine VO.go (VO.ld 0 rfl rfl rfl rfl ?_)))
    refine VO.go (VO.light (light_idxA k rfl rfl rfl rfl rfl hk (by omega)) ?_)
    (repeat (first | refine VC.seq ?_ | refine VC.region ?_ | refine VC.block ?_ | refine VC.label ?_ | refine VC.scope ?_ | refine VO.go (VO.nil ?_) | refine VO.go (VO.ld 0 rfl rfl rfl rfl ?_)))
    refine VO.go (VO.load rfl rfl (RdL.blk hK (kinds_at (k := k) (j := 1) (by omega) rfl)) ?_)
    refine VO.go (VO.opx (OpT.range Tryd.underlying9 rfl) ?_)
    rintro _ _ ⟨ib, rfl, rfl⟩
    (repeat (first | refine VC.seq ?_ | refine VC.region ?_ | refine VC.block ?_ | refine VC.label ?_ | refine VC.scope ?_ | refine VO.go (VO.nil ?_) | refine VO.go (VO.ld 0 rfl rfl rfl rfl ?_)))
    refine VC.loop (σ := Nat) (fun m => [(3, .pointer (some ⟨b, 0, none⟩)), (5, .pointer (some ⟨db, 0, none⟩)), (8, .slice (some ⟨fb, fo, none⟩) l.length cap), (9, .int .i64 l.length), (10, .int .i64 i), (29, .pointer (some ⟨ib, 0, none⟩))])
      (fun m => [itH ib (toB (usesK k)) m, txtH w.heap.size b (toB (putL (l.take i) ++ wordK k ++ ((usesK k).take m).flatMap (useT d))), pt db (doC d) 30]) (fun m => m ≤ (usesK k).length) (fun m => (usesK k).length - m) 0
      (Nat.zero_le _) (Sub.cons rfl (Sub.cons rfl (Sub.cons rfl (Sub.cons rfl (Sub.cons rfl (Sub.cons rfl (Sub.nil _))))))) ?_ ?_
    · rw [List.take_zero, List.flatMap_nil, List.append_nil]
      exact (Imp.pick 0 rfl (Imp.pick 1 rfl (Imp.pick 0 rfl Imp.nil))).ent
    intro m hm
    by_cases hm2 : m < (usesK k).length
    · obtain ⟨c, hc⟩ : ∃ c, (usesK k)[m]? = some c := ⟨_, List.getElem?_eq_getElem hm2⟩
      have hc2 : (toB (usesK k)).data.toList[m]? = some c := by show (usesK k).toArray.toList[m]? = _; simpa using hc
      have htake : ((usesK k).take (m + 1)).flatMap (useT d) = ((usesK k).take m).flatMap (useT d) ++ useT d c := by rw [List.take_add_one, hc]; simp
      have hfl : (((usesK k).take m).flatMap (useT d)).length ≤ 4100 * ((usesK k).take m).length := flatMap_len fun c _ => useT_len hdo c
      have hfl2 : ((usesK k).take m).length ≤ 4 := by rw [List.length_take]; omega
      have hbase : (putL (l.take i) ++ wordK k ++ ((usesK k).take m).flatMap (useT d)).length ≤ 60000000 := by simp only [List.length_append]; omega
      have hnext : ∀ t : List UInt8, putL (l.take i) ++ wordK k ++ ((usesK k).take m).flatMap (useT d) ++ t = putL (l.take i) ++ wordK k ++ (((usesK k).take m).flatMap (useT d) ++ t) := fun t => by rw [List.append_assoc]
      generalize putL (l.take i) ++ wordK k ++ ((usesK k).take m).flatMap (useT d) = base at hbase hnext ⊢
      rcases uses_ok k (by omega) c (List.mem_of_getElem? hc) with rfl | rfl | rfl | rfl
      · (repeat (first | refine VC.seq ?_ | refine VC.region ?_ | refine VC.block ?_ | refine VC.label ?_ | refine VC.scope ?_ | refine VO.go (VO.nil ?_) | refine VO.go (VO.ld 0 rfl rfl rfl rfl ?_)))
        refine VO.go (VO.op1 (OpT.nextB (c := 97) 0 rfl rfl (by rw [toB_size]; exact hm2) (decode_ascii hc2 (by decide))) ?_)
        (repeat (first | refine VC.seq ?_ | refine VC.region ?_ | refine VC.block ?_ | refine VC.label ?_ | refine VC.scope ?_ | refine VO.go (VO.nil ?_) | refine VO.go (VO.ld 0 rfl rfl rfl rfl ?_)))
        refine VC.condT rfl (VC.skip ?_)
        (repeat (first | refine VC.seq ?_ | refine VC.region ?_ | refine VC.block ?_ | refine VC.label ?_ | refine VC.scope ?_ | refine VO.go (VO.nil ?_) | refine VO.go (VO.ld 0 rfl rfl rfl rfl ?_)))
        refine VC.condT rfl ?_
        (repeat (first | refine VC.seq ?_ | refine VC.region ?_ | refine VC.block ?_ | refine VC.label ?_ | refine VC.scope ?_ | refine VO.go (VO.nil ?_) | refine VO.go (VO.ld 0 rfl rfl rfl rfl ?_) | refine VO.go (VO.ld 1 rfl rfl rfl rfl ?_) | refine VO.go (VO.ld 2 rfl rfl rfl rfl ?_)))
        refine VO.go (VO.callV' (fun Fr w hF hs _ => itoa_spec Fr w d.a hdo.a.1 hdo.a.2 (TabF.st rfl hT hF hs)) rfl ?_)
        refine VO.go (VO.light (light_cat rfl rfl (by have := num_size hdo.a; show 1 + _ ≤ _; omega)) ?_)
        rw [cat32]
        refine VO.go (VO.write rfl 1 rfl (nb_cons NB.it (nb_cons (NB.pt (by decide)) nb_nil)) (by have := numL_len hdo.a; rw [toB_size, toB_size]; omega) rfl ?_)
        rw [toB_cat, hnext, show numL d.a = useT d 97 from rfl, ← htake]
        (repeat (first | refine VC.seq ?_ | refine VC.region ?_ | refine VC.block ?_ | refine VC.label ?_ | refine VC.scope ?_ | refine VO.go (VO.nil ?_) | refine VO.go (VO.ld 0 rfl rfl rfl rfl ?_)))
        exact ⟨m + 1, hm2, by dsimp only; omega, Sub.cons rfl (Sub.cons rfl (Sub.cons rfl (Sub.cons rfl (Sub.cons rfl (Sub.cons rfl (Sub.nil _)))))), Ent.refl⟩
      · (repeat (first | refine VC.seq ?_ | refine VC.region ?_ | refine VC.block ?_ | refine VC.label ?_ | refine VC.scope ?_ | refine VO.go (VO.nil ?_) | refine VO.go (VO.ld 0 rfl rfl rfl rfl ?_)))
        refine VO.go (VO.op1 (OpT.nextB (c := 98) 0 rfl rfl (by rw [toB_size]; exact hm2) (decode_ascii hc2 (by decide))) ?_)
        (repeat (first | refine VC.seq ?_ | refine VC.region ?_ | refine VC.block ?_ | refine VC.label ?_ | refine VC.scope ?_ | refine VO.go (VO.nil ?_) | refine VO.go (VO.ld 0 rfl rfl rfl rfl ?_)))
        refine VC.condT rfl (VC.skip ?_)
        (repeat (first | refine VC.seq ?_ | refine VC.region ?_ | refine VC.block ?_ | refine VC.label ?_ | refine VC.scope ?_ | refine VO.go (VO.nil ?_) | refine VO.go (VO.ld 0 rfl rfl rfl rfl ?_)))
        refine VC.condF rfl ?_
        (repeat (first | refine VC.seq ?_ | refine VC.region ?_ | refine VC.block ?_ | refine VC.label ?_ | refine VC.scope ?_ | refine VO.go (VO.nil ?_) | refine VO.go (VO.ld 0 rfl rfl rfl rfl ?_)))
        refine VC.condT rfl ?_
        (repeat (first | refine VC.seq ?_ | refine VC.region ?_ | refine VC.block ?_ | refine VC.label ?_ | refine VC.scope ?_ | refine VO.go (VO.nil ?_) | refine VO.go (VO.ld 0 rfl rfl rfl rfl ?_) | refine VO.go (VO.ld 1 rfl rfl rfl rfl ?_) | refine VO.go (VO.ld 2 rfl rfl rfl rfl ?_)))
        refine VO.go (VO.callV' (fun Fr w hF hs _ => itoa_spec Fr w d.b hdo.b.1 hdo.b.2 (TabF.st rfl hT hF hs)) rfl ?_)
        refine VO.go (VO.light (light_cat rfl rfl (by have := num_size hdo.b; show 1 + _ ≤ _; omega)) ?_)
        rw [cat32]
        refine VO.go (VO.write rfl 1 rfl (nb_cons NB.it (nb_cons (NB.pt (by decide)) nb_nil)) (by have := numL_len hdo.b; rw [toB_size, toB_size]; omega) rfl ?_)
        rw [toB_cat, hnext, show numL d.b = useT d 98 from rfl, ← htake]
        (repeat (first | refine VC.seq ?_ | refine VC.region ?_ | refine VC.block ?_ | refine VC.label ?_ | refine VC.scope ?_ | refine VO.go (VO.nil ?_) | refine VO.go (VO.ld 0 rfl rfl rfl rfl ?_)))
        exact ⟨m + 1, hm2, by dsimp only; omega, Sub.cons rfl (Sub.cons rfl (Sub.cons rfl (Sub.cons rfl (Sub.cons rfl (Sub.cons rfl (Sub.nil _)))))), Ent.refl⟩
      · (repeat (first | refine VC.seq ?_ | refine VC.region ?_ | refine VC.block ?_ | refine VC.label ?_ | refine VC.scope ?_ | refine VO.go (VO.nil ?_) | refine VO.go (VO.ld 0 rfl rfl rfl rfl ?_)))
        refine VO.go (VO.op1 (OpT.nextB (c := 99) 0 rfl rfl (by rw [toB_size]; exact hm2) (decode_ascii hc2 (by decide))) ?_)
        (repeat (first | refine VC.seq ?_ | refine VC.region ?_ | refine VC.block ?_ | refine VC.label ?_ | refine VC.scope ?_ | refine VO.go (VO.nil ?_) | refine VO.go (VO.ld 0 rfl rfl rfl rfl ?_)))
        refine VC.condT rfl (VC.skip ?_)
        (repeat (first | refine VC.seq ?_ | refine VC.region ?_ | refine VC.block ?_ | refine VC.label ?_ | refine VC.scope ?_ | refine VO.go (VO.nil ?_) | refine VO.go (VO.ld 0 rfl rfl rfl rfl ?_)))
        refine VC.condF rfl ?_
        (repeat (first | refine VC.seq ?_ | refine VC.region ?_ | refine VC.block ?_ | refine VC.label ?_ | refine VC.scope ?_ | refine VO.go (VO.nil ?_) | refine VO.go (VO.ld 0 rfl rfl rfl rfl ?_)))
        refine VC.condF rfl ?_
        (repeat (first | refine VC.seq ?_ | refine VC.region ?_ | refine VC.block ?_ | refine VC.label ?_ | refine VC.scope ?_ | refine VO.go (VO.nil ?_) | refine VO.go (VO.ld 0 rfl rfl rfl rfl ?_)))
        refine VC.condT rfl ?_
        (repeat (first | refine VC.seq ?_ | refine VC.region ?_ | refine VC.block ?_ | refine VC.label ?_ | refine VC.scope ?_ | refine VO.go (VO.nil ?_) | refine VO.go (VO.ld 0 rfl rfl rfl rfl ?_) | refine VO.go (VO.ld 1 rfl rfl rfl rfl ?_) | refine VO.go (VO.ld 2 rfl rfl rfl rfl ?_)))
        refine VO.go (VO.callV' (fun Fr w hF hs _ => itoa_spec Fr w d.c hdo.c.1 hdo.c.2 (TabF.st rfl hT hF hs)) rfl ?_)
        refine VO.go (VO.light (light_cat rfl rfl (by have := num_size hdo.c; show 1 + _ ≤ _; omega)) ?_)
        rw [cat32]
        refine VO.go (VO.write rfl 1 rfl (nb_cons NB.it (nb_cons (NB.pt (by decide)) nb_nil)) (by have := numL_len hdo.c; rw [toB_size, toB_size]; omega) rfl ?_)
        rw [toB_cat, hnext, show numL d.c = useT d 99 from rfl, ← htake]
        (repeat (first | refine VC.seq ?_ | refine VC.region ?_ | refine VC.block ?_ | refine VC.label ?_ | refine VC.scope ?_ | refine VO.go (VO.nil ?_) | refine VO.go (VO.ld 0 rfl rfl rfl rfl ?_)))
        exact ⟨m + 1, hm2, by dsimp only; omega, Sub.cons rfl (Sub.cons rfl (Sub.cons rfl (Sub.cons rfl (Sub.cons rfl (Sub.cons rfl (Sub.nil _)))))), Ent.refl⟩
      · (repeat (first | refine VC.seq ?_ | refine VC.region ?_ | refine VC.block ?_ | refine VC.label ?_ | refine VC.scope ?_ | refine VO.go (VO.nil ?_) | refine VO.go (VO.ld 0 rfl rfl rfl rfl ?_)))
        refine VO.go (VO.op1 (OpT.nextB (c := 111) 0 rfl rfl (by rw [toB_size]; exact hm2) (decode_ascii hc2 (by decide))) ?_)
        (repeat (first | refine VC.seq ?_ | refine VC.region ?_ | refine VC.block ?_ | refine VC.label ?_ | refine VC.scope ?_ | refine VO.go (VO.nil ?_) | refine VO.go (VO.ld 0 rfl rfl rfl rfl ?_)))
        refine VC.condT rfl (VC.skip ?_)
        (repeat (first | refine VC.seq ?_ | refine VC.region ?_ | refine VC.block ?_ | refine VC.label ?_ | refine VC.scope ?_ | refine VO.go (VO.nil ?_) | refine VO.go (VO.ld 0 rfl rfl rfl rfl ?_)))
        refine VC.condF rfl ?_
        (repeat (first | refine VC.seq ?_ | refine VC.region ?_ | refine VC.block ?_ | refine VC.label ?_ | refine VC.scope ?_ | refine VO.go (VO.nil ?_) | refine VO.go (VO.ld 0 rfl rfl rfl rfl ?_)))
        refine VC.condF rfl ?_
        (repeat (first | refine VC.seq ?_ | refine VC.region ?_ | refine VC.block ?_ | refine VC.label ?_ | refine VC.scope ?_ | refine VO.go (VO.nil ?_) | refine VO.go (VO.ld 0 rfl rfl rfl rfl ?_)))
        refine VC.condF rfl ?_
        (repeat (first | refine VC.seq ?_ | refine VC.region ?_ | refine VC.block ?_ | refine VC.label ?_ | refine VC.scope ?_ | refine VO.go (VO.nil ?_) | refine VO.go (VO.ld 0 rfl rfl rfl rfl ?_)))
        refine VC.condT rfl ?_
        have z1 := num_size hdo.opk
        have z2 := num_size hdo.opv
        have z3 := hdo.key
        have z4 := hdo.val
        have z5 := encT_size d.op.key
        have z6 := encT_size d.op.value
        refine VC.seq (VC.draw (ts 0 3 (ts 6 3 (.only 3 (.take 4 (.take 5 (.only 9 (.take 10 (.only 11 .nil)))))))) (by kernel_rfl) (by decide +kernel) ?_)
        (repeat (first | refine VA.go (VA.nil ?_) | refine VA.go (VA.ld 0 rfl rfl rfl rfl rfl ?_) | refine VA.go (VA.ld 1 rfl rfl rfl rfl rfl ?_) | refine VA.go (VA.ld 2 rfl rfl rfl rfl rfl ?_)))
        refine VA.go (VA.callR (fun Fr w hF hs _ => itoa_spec Fr w d.op.kind hdo.opk.1 hdo.opk.2 (TabF.st rfl hT hF hs)) rfl rfl (by (try refine Pd.st ?_); (repeat (first | exact Pd.nil | exact Pd.fnil | refine Pd.inner ?_ | refine Pd.skip (by decide +kernel) ?_ | refine Pd.fcons (RdL.one 0 rfl rfl) ?_ | refine Pd.fcons (RdL.one 1 rfl rfl) ?_ | refine Pd.fcons (RdL.one 2 rfl rfl) ?_ | refine Pd.fcons (RdL.many 0 rfl rfl) ?_ | refine Pd.fcons (RdL.many 1 rfl rfl) ?_ | refine Pd.fcons (RdL.many 2 rfl rfl) ?_ | refine Pd.cons (RdL.one 0 rfl rfl) ?_ | refine Pd.cons (RdL.one 1 rfl rfl) ?_ | refine Pd.cons (RdL.one 2 rfl rfl) ?_ | refine Pd.cons (RdL.many 0 rfl rfl) ?_ | refine Pd.cons (RdL.many 1 rfl rfl) ?_ | refine Pd.cons (RdL.many 2 rfl rfl) ?_ | refine Pd.fconsM (MpL.one 0 rfl) ?_ | refine Pd.fconsM (MpL.one 1 rfl) ?_ | refine Pd.fconsM (MpL.one 2 rfl) ?_ | refine Pd.consM (MpL.one 0 rfl) ?_ | refine Pd.consM (MpL.one 1 rfl) ?_ | refine Pd.consM (MpL.one 2 rfl) ?_))) ?_)
        refine VA.go (VA.light rfl (light_cat rfl rfl (by show 1 + _ ≤ _; omega)) ?_)
        rw [cat32]
        refine VA.go (VA.light rfl (light_cat (t := toB [32]) rfl rfl (by have := numL_len hdo.opk; rw [toB_size]; show _ + 1 ≤ _; omega)) ?_)
        rw [toB_cat]
        (repeat (first | refine VA.go (VA.nil ?_) | refine VA.go (VA.ld 0 rfl rfl rfl rfl rfl ?_) | refine VA.go (VA.ld 1 rfl rfl rfl rfl rfl ?_) | refine VA.go (VA.ld 2 rfl rfl rfl rfl rfl ?_)))
        refine VA.go (VA.callR (fun Fr w hF hs _ => itoa_spec Fr w d.op.version hdo.opv.1 hdo.opv.2 (TabF.st rfl hT hF hs)) rfl rfl (by (try refine Pd.st ?_); (repeat (first | exact Pd.nil | exact Pd.fnil | refine Pd.inner ?_ | refine Pd.skip (by decide +kernel) ?_ | refine Pd.fcons (RdL.one 0 rfl rfl) ?_ | refine Pd.fcons (RdL.one 1 rfl rfl) ?_ | refine Pd.fcons (RdL.one 2 rfl rfl) ?_ | refine Pd.fcons (RdL.many 0 rfl rfl) ?_ | refine Pd.fcons (RdL.many 1 rfl rfl) ?_ | refine Pd.fcons (RdL.many 2 rfl rfl) ?_ | refine Pd.cons (RdL.one 0 rfl rfl) ?_ | refine Pd.cons (RdL.one 1 rfl rfl) ?_ | refine Pd.cons (RdL.one 2 rfl rfl) ?_ | refine Pd.cons (RdL.many 0 rfl rfl) ?_ | refine Pd.cons (RdL.many 1 rfl rfl) ?_ | refine Pd.cons (RdL.many 2 rfl rfl) ?_ | refine Pd.fconsM (MpL.one 0 rfl) ?_ | refine Pd.fconsM (MpL.one 1 rfl) ?_ | refine Pd.fconsM (MpL.one 2 rfl) ?_ | refine Pd.consM (MpL.one 0 rfl) ?_ | refine Pd.consM (MpL.one 1 rfl) ?_ | refine Pd.consM (MpL.one 2 rfl) ?_))) ?_)
        refine VA.go (VA.light rfl (light_cat rfl rfl (by have := numL_len hdo.opk; rw [toB_size, List.length_append]; show _ + 1 + _ ≤ _; omega)) ?_)
        rw [numT_toB, toB_cat]
        refine VA.go (VA.opP (OpT.write (L := [itH ib (toB (usesK k)) (m + 1), txtH w.heap.size b (toB base), pt db (doC d) 30]) rfl 1 rfl (nb_cons NB.it (nb_cons (NB.pt (by decide)) nb_nil)) (by have := numL_len hdo.opk; have := numL_len hdo.opv; rw [numT_toB, toB_size] at z2; rw [toB_size, toB_size, List.length_append, List.length_append]; show _ + (_ + 1 + _) ≤ _; omega) rfl) rfl ?_ ?_)
        · rintro _ _ ⟨rfl, rfl⟩
          exact (by (try refine Pd.st ?_); (repeat (first | exact Pd.nil | exact Pd.fnil | refine Pd.inner ?_ | refine Pd.skip (by decide +kernel) ?_ | refine Pd.fcons (RdL.one 0 rfl rfl) ?_ | refine Pd.fcons (RdL.one 1 rfl rfl) ?_ | refine Pd.fcons (RdL.one 2 rfl rfl) ?_ | refine Pd.fcons (RdL.many 0 rfl rfl) ?_ | refine Pd.fcons (RdL.many 1 rfl rfl) ?_ | refine Pd.fcons (RdL.many 2 rfl rfl) ?_ | refine Pd.cons (RdL.one 0 rfl rfl) ?_ | refine Pd.cons (RdL.one 1 rfl rfl) ?_ | refine Pd.cons (RdL.one 2 rfl rfl) ?_ | refine Pd.cons (RdL.many 0 rfl rfl) ?_ | refine Pd.cons (RdL.many 1 rfl rfl) ?_ | refine Pd.cons (RdL.many 2 rfl rfl) ?_ | refine Pd.fconsM (MpL.one 0 rfl) ?_ | refine Pd.fconsM (MpL.one 1 rfl) ?_ | refine Pd.fconsM (MpL.one 2 rfl) ?_ | refine Pd.consM (MpL.one 0 rfl) ?_ | refine Pd.consM (MpL.one 1 rfl) ?_ | refine Pd.consM (MpL.one 2 rfl) ?_)))
        rintro _ _ ⟨rfl, rfl⟩
        rw [toB_cat, show numL d.op.kind ++ [32] ++ Lib.itoa d.op.version = numL d.op.kind ++ numL d.op.version by simp [numL]]
        (repeat (first | refine VA.go (VA.nil ?_) | refine VA.go (VA.ld 0 rfl rfl rfl rfl rfl ?_) | refine VA.go (VA.ld 1 rfl rfl rfl rfl rfl ?_) | refine VA.go (VA.ld 2 rfl rfl rfl rfl rfl ?_)))
        refine VC.draw (ts 0 3 (ts 6 3 (.only 3 (.take 4 (.take 5 (.only 9 (.take 10 (.only 11 .nil)))))))) (by kernel_rfl) (by decide +kernel) ?_
        (repeat (first | refine VA.go (VA.nil ?_) | refine VA.go (VA.ld 0 rfl rfl rfl rfl rfl ?_) | refine VA.go (VA.ld 1 rfl rfl rfl rfl rfl ?_) | refine VA.go (VA.ld 2 rfl rfl rfl rfl rfl ?_)))
        refine VA.go (VA.callR (fun Fr w hF hs _ => putText_spec Fr w d.op.key (by omega)) rfl rfl (by (try refine Pd.st ?_); (repeat (first | exact Pd.nil | exact Pd.fnil | refine Pd.inner ?_ | refine Pd.skip (by decide +kernel) ?_ | refine Pd.fcons (RdL.one 0 rfl rfl) ?_ | refine Pd.fcons (RdL.one 1 rfl rfl) ?_ | refine Pd.fcons (RdL.one 2 rfl rfl) ?_ | refine Pd.fcons (RdL.many 0 rfl rfl) ?_ | refine Pd.fcons (RdL.many 1 rfl rfl) ?_ | refine Pd.fcons (RdL.many 2 rfl rfl) ?_ | refine Pd.cons (RdL.one 0 rfl rfl) ?_ | refine Pd.cons (RdL.one 1 rfl rfl) ?_ | refine Pd.cons (RdL.one 2 rfl rfl) ?_ | refine Pd.cons (RdL.many 0 rfl rfl) ?_ | refine Pd.cons (RdL.many 1 rfl rfl) ?_ | refine Pd.cons (RdL.many 2 rfl rfl) ?_ | refine Pd.fconsM (MpL.one 0 rfl) ?_ | refine Pd.fconsM (MpL.one 1 rfl) ?_ | refine Pd.fconsM (MpL.one 2 rfl) ?_ | refine Pd.consM (MpL.one 0 rfl) ?_ | refine Pd.consM (MpL.one 1 rfl) ?_ | refine Pd.consM (MpL.one 2 rfl) ?_))) ?_)
        refine VA.go (VA.light rfl (light_cat rfl rfl (by show 1 + _ ≤ _; omega)) ?_)
        rw [cat32e]
        refine VA.go (VA.light rfl (light_cat (t := toB [32]) rfl rfl (by rw [toB_size, List.length_cons, List.length_cons, encB_len, data_len]; show _ + 1 ≤ _; omega)) ?_)
        rw [toB_cat]
        (repeat (first | refine VA.go (VA.nil ?_) | refine VA.go (VA.ld 0 rfl rfl rfl rfl rfl ?_) | refine VA.go (VA.ld 1 rfl rfl rfl rfl rfl ?_) | refine VA.go (VA.ld 2 rfl rfl rfl rfl rfl ?_)))
        refine VA.go (VA.callR (fun Fr w hF hs _ => putText_spec Fr w d.op.value (by omega)) rfl rfl (by (try refine Pd.st ?_); (repeat (first | exact Pd.nil | exact Pd.fnil | refine Pd.inner ?_ | refine Pd.skip (by decide +kernel) ?_ | refine Pd.fcons (RdL.one 0 rfl rfl) ?_ | refine Pd.fcons (RdL.one 1 rfl rfl) ?_ | refine Pd.fcons (RdL.one 2 rfl rfl) ?_ | refine Pd.fcons (RdL.many 0 rfl rfl) ?_ | refine Pd.fcons (RdL.many 1 rfl rfl) ?_ | refine Pd.fcons (RdL.many 2 rfl rfl) ?_ | refine Pd.cons (RdL.one 0 rfl rfl) ?_ | refine Pd.cons (RdL.one 1 rfl rfl) ?_ | refine Pd.cons (RdL.one 2 rfl rfl) ?_ | refine Pd.cons (RdL.many 0 rfl rfl) ?_ | refine Pd.cons (RdL.many 1 rfl rfl) ?_ | refine Pd.cons (RdL.many 2 rfl rfl) ?_ | refine Pd.fconsM (MpL.one 0 rfl) ?_ | refine Pd.fconsM (MpL.one 1 rfl) ?_ | refine Pd.fconsM (MpL.one 2 rfl) ?_ | refine Pd.consM (MpL.one 0 rfl) ?_ | refine Pd.consM (MpL.one 1 rfl) ?_ | refine Pd.consM (MpL.one 2 rfl) ?_))) ?_)
        refine VA.go (VA.light rfl (light_cat rfl rfl (by rw [toB_size, List.length_append, List.length_cons, List.length_cons, encB_len, data_len]; show _ + 1 + _ ≤ _; omega)) ?_)
        rw [show encT d.op.value = toB (58 :: encB d.op.value.data.toList) from rfl, toB_cat]
        refine VA.go (VA.opP (OpT.write (L := [itH ib (toB (usesK k)) (m + 1), txtH w.heap.size b (toB (base ++ (numL d.op.kind ++ numL d.op.version))), pt db (doC d) 30]) rfl 1 rfl (nb_cons NB.it (nb_cons (NB.pt (by decide)) nb_nil)) (by have := numL_len hdo.opk; have := numL_len hdo.opv; rw [toB_size, toB_size]; simp only [List.length_append, List.length_cons, encB_len, data_len, List.length_nil]; omega) rfl) rfl ?_ ?_)
        · rintro _ _ ⟨rfl, rfl⟩
          exact (by (try refine Pd.st ?_); (repeat (first | exact Pd.nil | exact Pd.fnil | refine Pd.inner ?_ | refine Pd.skip (by decide +kernel) ?_ | refine Pd.fcons (RdL.one 0 rfl rfl) ?_ | refine Pd.fcons (RdL.one 1 rfl rfl) ?_ | refine Pd.fcons (RdL.one 2 rfl rfl) ?_ | refine Pd.fcons (RdL.many 0 rfl rfl) ?_ | refine Pd.fcons (RdL.many 1 rfl rfl) ?_ | refine Pd.fcons (RdL.many 2 rfl rfl) ?_ | refine Pd.cons (RdL.one 0 rfl rfl) ?_ | refine Pd.cons (RdL.one 1 rfl rfl) ?_ | refine Pd.cons (RdL.one 2 rfl rfl) ?_ | refine Pd.cons (RdL.many 0 rfl rfl) ?_ | refine Pd.cons (RdL.many 1 rfl rfl) ?_ | refine Pd.cons (RdL.many 2 rfl rfl) ?_ | refine Pd.fconsM (MpL.one 0 rfl) ?_ | refine Pd.fconsM (MpL.one 1 rfl) ?_ | refine Pd.fconsM (MpL.one 2 rfl) ?_ | refine Pd.consM (MpL.one 0 rfl) ?_ | refine Pd.consM (MpL.one 1 rfl) ?_ | refine Pd.consM (MpL.one 2 rfl) ?_)))
        rintro _ _ ⟨rfl, rfl⟩
        rw [toB_cat, List.append_assoc base, show numL d.op.kind ++ numL d.op.version ++ (32 :: 58 :: encB d.op.key.data.toList ++ [32] ++ 58 :: encB d.op.value.data.toList) = useT d 111 by simp [useT], hnext (useT d 111), ← htake]
        (repeat (first | refine VA.go (VA.nil ?_) | refine VA.go (VA.ld 0 rfl rfl rfl rfl rfl ?_) | refine VA.go (VA.ld 1 rfl rfl rfl rfl rfl ?_) | refine VA.go (VA.ld 2 rfl rfl rfl rfl rfl ?_)))
        exact ⟨m + 1, hm2, by dsimp only; omega, Sub.cons rfl (Sub.cons rfl (Sub.cons rfl (Sub.cons rfl (Sub.cons rfl (Sub.cons rfl (Sub.nil _)))))), Ent.refl⟩
    · obtain rfl : m = (usesK k).length := by omega
      rw [List.take_length, show itH ib (toB (usesK k)) (usesK k).length = itH ib (toB (usesK k)) (toB (usesK k)).size by rw [toB_size]]
      have hfl : ((usesK k).flatMap (useT d)).length ≤ 4100 * (usesK k).length := flatMap_len fun c _ => useT_len hdo c
      (repeat (first | refine VC.seq ?_ | refine VC.region ?_ | refine VC.block ?_ | refine VC.label ?_ | refine VC.scope ?_ | refine VO.go (VO.nil ?_) | refine VO.go (VO.ld 0 rfl rfl rfl rfl ?_)))
      refine VO.go (VO.op1 (OpT.nextN 0 rfl rfl) ?_)
      (repeat (first | refine VC.seq ?_ | refine VC.region ?_ | refine VC.block ?_ | refine VC.label ?_ | refine VC.scope ?_ | refine VO.go (VO.nil ?_) | refine VO.go (VO.ld 0 rfl rfl rfl rfl ?_)))
      refine VC.condF rfl (VC.exit ?_)
      (repeat (first | refine VC.seq ?_ | refine VC.region ?_ | refine VC.block ?_ | refine VC.label ?_ | refine VC.scope ?_ | refine VO.go (VO.nil ?_) | refine VO.go (VO.ld 0 rfl rfl rfl rfl ?_)))
      refine VO.go (VO.writeB (c := 10) rfl 1 rfl (nb_cons NB.it (nb_cons (NB.pt (by decide)) nb_nil)) (by rw [toB_size]; simp only [List.length_append]; omega) rfl ?_)
      rw [toB_snoc, show putL (l.take i) ++ wordK k ++ (usesK k).flatMap (useT d) ++ [10] = putL (l.take (i + 1)) by rw [htk, hline]; simp]
      (repeat (first | refine VC.seq ?_ | refine VC.region ?_ | refine VC.block ?_ | refine VC.label ?_ | refine VC.scope ?_ | refine VO.go (VO.nil ?_) | refine VO.go (VO.ld 0 rfl rfl rfl rfl ?_)))
      refine VO.go (VO.add rfl rfl (by omega) (by omega) ?_)
      (repeat (first | refine VC.seq ?_ | refine VC.region ?_ | refine VC.block ?_ | refine VC.label ?_ | refine VC.scope ?_ | refine VO.go (VO.nil ?_) | refine VO.go (VO.ld 0 rfl rfl rfl rfl ?_)))
      exact ⟨i + 1, hi2, by dsimp only; omega, Sub.cons rfl (Sub.cons rfl (Sub.cons rfl (Sub.cons rfl (Sub.nil _)))), (Imp.pick 1 rfl Imp.nil).ent⟩
  · obtain rfl : i = l.length := by omega
    rw [List.take_length]
    (repeat (first | refine VC.seq ?_ | refine VC.region ?_ | refine VC.block ?_ | refine VC.label ?_ | refine VC.scope ?_ | refine VO.go (VO.nil ?_) | refine VO.go (VO.ld 0 rfl rfl rfl rfl ?_)))
    refine VO.go (VO.text rfl 0 rfl nb_nil rfl ?_)
    (repeat (first | refine VC.seq ?_ | refine VC.region ?_ | refine VC.block ?_ | refine VC.label ?_ | refine VC.scope ?_ | refine VO.go (VO.nil ?_) | refine VO.go (VO.ld 0 rfl rfl rfl rfl ?_)))
    exact VC.ret (Ret.tmp 2 rfl rfl Ent.refl ⟨rfl, rfl⟩)
end Go.Proofs.YtceobomlmdmicaaDoor.Scr
