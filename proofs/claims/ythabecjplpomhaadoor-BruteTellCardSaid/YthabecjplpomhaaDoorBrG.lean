/- Layer 33: the search, walked. No condition but the table of powers of ten. -/
import Derived.Test.YthabecjplpomhaaDoorBrF
namespace Go.Proofs.YthabecjplpomhaaDoor.Br
open Go Go.Proofs.YthabecjplpomhaaDoor.Vg Go.Proofs.YthabecjplpomhaaDoor.T Go.Proofs.YthabecjplpomhaaDoor.Api Go.Proofs.YthabecjplpomhaaDoor.Kv Go.Proofs.YthabecjplpomhaaDoor.LibC
set_option linter.unusedSimpArgs false
set_option linter.unusedVariables false
attribute [local irreducible] VO VC VA

theorem kv_nodup {Fr : Nat → Prop} {w : World} {p : Nat} {S : KvM} (h : SatIn Fr [kvH p S] w) : (S.map Prod.fst).Nodup := by
  obtain ⟨b, _, hm⟩ := kv_in h
  exact hm.at_.nodup

theorem range_drop {n i : Nat} (h : i < n) : (List.range n).drop i = i :: (List.range n).drop (i + 1) := by
  rw [List.drop_eq_getElem_cons (by simpa using h)]; simp
theorem stpK_n {l : List RecM} {st : List Nat} {S : KvM} {i : Nat} (hi : i < l.length) (hn : i ∉ st) : (stpK S (upd l st) (at_ l i)).2.1 = upd l (st ++ [i]) := by
  have h := upd_snoc hi hn
  unfold stpK
  split at h
  · rename_i hr
    rw [if_pos hr]; show upd l st = _; omega
  · rename_i hr
    rw [if_neg hr]; show upd l st + 1 = _; omega
theorem way_eq {l : List RecM} {m : Nat} {st : List Nat} {S : KvM} (hS : (S.map Prod.fst).Nodup) {i : Nat} (hi : i < l.length) (hm : may l st i = true) (ht : tells (at_ l i) (stpK S (upd l st) (at_ l i)).2.2 = true) :
    way l m st (mGet S) (upd l st) i = solve l m (st ++ [i]) (mGet (stpK S (upd l st) (at_ l i)).1) (upd l (st ++ [i])) := by
  unfold way
  rw [stpK_F hS, hm, ht, stpK_n hi (may_of hm).1]; rfl
theorem way_no {l : List RecM} {m : Nat} {st : List Nat} {S : KvM} (hS : (S.map Prod.fst).Nodup) {i : Nat} (h : may l st i = false ∨ tells (at_ l i) (stpK S (upd l st) (at_ l i)).2.2 = false) : way l m st (mGet S) (upd l st) i = none := by
  unfold way
  rw [stpK_F hS]
  rcases h with h | h <;> simp [h]
theorem ordC_snoc (st : List Nat) (i : Nat) : ordC st ++ [.int .i64 (i : Int)] = ordC (st ++ [i]) := by simp [ordC]
theorem ordC_len (st : List Nat) : (ordC st).length = st.length := by simp [ordC]

set_option maxRecDepth 100000 in
set_option maxHeartbeats 2000000 in
theorem find_spec {l : List RecM} (hl : l.length ≤ 8) (hops : ∀ r ∈ l, opCheck r.op = 0) {D : Nat} (hD : DBits l D) {sp : Nat} {a : Option Addr} {cap : Nat} : ∀ (m : Nat) (Fr : Nat → Prop) (w : World) {p : Nat} {S : KvM} {V : VM} {st : List Nat} {s : Nat},
    RecsIn Fr w a l → SatIn Fr [kvH p S] w → GoodN S (upd l st) → TabF Fr w → Bits s st → st.Nodup → (∀ i ∈ st, i < l.length) → st.length + m = l.length → VInv l V →
    Tri Tryd.prog 28 [.pointer (some ⟨sp, 0, none⟩), .int .i64 s, .int .i64 (upd l st), .pointer (some ⟨p, 0, none⟩)] Fr w [srH sp a l.length cap D V st]
      (fun v L => ∃ V', VInv l V' ∧ ((∃ o, solve l m st (mGet S) (upd l st) = some o ∧ v = .bool true ∧ L = [srH sp a l.length cap D V' o]) ∨ (solve l m st (mGet S) (upd l st) = none ∧ v = .bool false ∧ L = [srH sp a l.length cap D V' st]))) := by
  intro m
  induction m using Nat.strongRecOn with
  | _ m ih =>
  intro Fr w p S V st s hR hK hG hT hb hnd hlt hm hV
  have hslt : s < 256 := Nat.lt_of_lt_of_le (hb.lt hlt) (Nat.pow_le_pow_right (by decide) hl : 2 ^ l.length ≤ 2 ^ 8)
  have hDlt : D < 256 := Nat.lt_of_lt_of_le hD.lt (Nat.pow_le_pow_right (by decide) hl : 2 ^ l.length ≤ 2 ^ 8)
  have hu := upd_le l st
  have hSn := kv_nodup hK
  have hgood := hG.good (by omega)
  refine Tri.of 125 Tryd.func28 rfl (by kernel_rfl) tabOk rfl rfl ?_
  (repeat (first | refine VC.seq ?_ | refine VC.region ?_ | refine VC.block ?_ | refine VC.label ?_ | refine VC.scope ?_ | refine VO.go (VO.nil ?_) | refine VO.go (VO.ld 0 rfl rfl rfl rfl ?_)))
  refine VC.opn 0 rfl (HOpn.sr sp a l.length cap D V st) ?_
  rintro ⟨vb, oa, oc⟩ hoc
  dsimp only at hoc
  refine VC.draw (ts 0 11 .nil) (by kernel_rfl) (by decide +kernel) ?_
  (repeat (first | refine VA.go (VA.nil ?_) | refine VA.go (VA.ld 0 rfl rfl rfl rfl rfl ?_) | refine VA.go (VA.ld 1 rfl rfl rfl rfl rfl ?_) | refine VA.go (VA.ld 2 rfl rfl rfl rfl rfl ?_) | refine VA.go (VA.offU rfl rfl rfl rfl ?_)))
  refine VA.go (VA.light rfl (light_and rfl rfl (by omega) (by omega)) ?_)
  (repeat (first | refine VA.go (VA.nil ?_) | refine VA.go (VA.ld 0 rfl rfl rfl rfl rfl ?_) | refine VA.go (VA.ld 1 rfl rfl rfl rfl rfl ?_) | refine VA.go (VA.ld 2 rfl rfl rfl rfl rfl ?_) | refine VA.go (VA.offU rfl rfl rfl rfl ?_)))
  refine VC.cond (t := allDone l st) (congrArg (fun b => some (Value.bool b)) (done_bits hD hb)) (fun h1 => ?_) (fun h1 => VC.skip ?_)
  · (repeat (first | refine VC.seq ?_ | refine VC.region ?_ | refine VC.block ?_ | refine VC.label ?_ | refine VC.scope ?_ | refine VO.go (VO.nil ?_) | refine VO.go (VO.ld 0 rfl rfl rfl rfl ?_)))
    exact VC.ret (Ret.tmp 8 rfl rfl (Imp.sr (vb, oa, oc) hoc Imp.refl).ent ⟨V, hV, .inl ⟨st, solve_done h1 m _ _, rfl, rfl⟩⟩)
  obtain ⟨m, rfl⟩ : ∃ k, m = k + 1 := by
    cases m with
    | zero => rw [full_done hnd hlt (by omega)] at h1; cases h1
    | succ k => exact ⟨k, rfl⟩
  rw [solve_succ l m st _ _ h1]
  (repeat (first | refine VC.seq ?_ | refine VC.region ?_ | refine VC.block ?_ | refine VC.label ?_ | refine VC.scope ?_ | refine VO.go (VO.nil ?_) | refine VO.go (VO.ld 0 rfl rfl rfl rfl ?_)))
  refine VO.go (VO.callV' (fun Fr w hF hs _ => cells_spec Fr w (hK.of hF hs) hgood (TabF.st rfl hT hF hs)) rfl ?_)
  (repeat (first | refine VC.seq ?_ | refine VC.region ?_ | refine VC.block ?_ | refine VC.label ?_ | refine VC.scope ?_ | refine VO.go (VO.nil ?_) | refine VO.go (VO.ld 0 rfl rfl rfl rfl ?_)))
  refine VO.go (VO.light (light_build (pv := [(0, .int .i64 s), (1, .string (txt S))]) [.int .i64 s, .string (txt S)] rfl rfl rfl (by kernel_rfl) rfl) ?_)
  refine VO.go (VO.alloc rfl fun hb2 => ?_)
  refine VO.go (VO.stA (vs := [.int .i64 s, .string (txt S)]) 0 rfl rfl rfl rfl (Nat.le_refl _) rfl rfl rfl ?_)
  (repeat (first | refine VC.seq ?_ | refine VC.region ?_ | refine VC.block ?_ | refine VC.label ?_ | refine VC.scope ?_ | refine VO.go (VO.nil ?_) | refine VO.go (VO.ld 0 rfl rfl rfl rfl ?_)))
  cases hg : mGet V ((s : Int), txt S) with
  | some x =>
    obtain ⟨rfl, hv⟩ := hV _ _ hg
    have hnone := hv s st S (m + 1) rfl hb hnd hm rfl
    rw [solve_succ l m st _ _ h1] at hnone
    refine VC.draw (ts 0 7 .nil) (by kernel_rfl) (by decide +kernel) ?_
    (repeat (first | refine VA.go (VA.nil ?_) | refine VA.go (VA.ld 0 rfl rfl rfl rfl rfl ?_) | refine VA.go (VA.ld 1 rfl rfl rfl rfl rfl ?_) | refine VA.go (VA.ld 2 rfl rfl rfl rfl rfl ?_) | refine VA.go (VA.ld 3 rfl rfl rfl rfl rfl ?_) | refine VA.go (VA.offU rfl rfl rfl rfl ?_)))
    refine VA.go (VA.ldA 0 [.int .i64 s, .string (txt S)] rfl rfl rfl rfl rfl ?_)
    refine VA.go (VA.lookup keyP Tryd.underlying67 rfl rfl (a := ((s : Int), txt S)) rfl rfl (MpL.one (d := intV) (xs := V) 2 rfl) ?_)
    rw [hg]
    (repeat (first | refine VA.go (VA.nil ?_) | refine VA.go (VA.ld 0 rfl rfl rfl rfl rfl ?_) | refine VA.go (VA.ld 1 rfl rfl rfl rfl rfl ?_) | refine VA.go (VA.ld 2 rfl rfl rfl rfl rfl ?_) | refine VA.go (VA.ld 3 rfl rfl rfl rfl rfl ?_) | refine VA.go (VA.offU rfl rfl rfl rfl ?_)))
    refine VC.condT rfl ?_
    (repeat (first | refine VC.seq ?_ | refine VC.region ?_ | refine VC.block ?_ | refine VC.label ?_ | refine VC.scope ?_ | refine VO.go (VO.nil ?_) | refine VO.go (VO.ld 0 rfl rfl rfl rfl ?_)))
    exact VC.ret (Ret.tmp 8 rfl rfl (Imp.sr (vb, oa, oc) hoc (Imp.pick 1 rfl (Imp.pick 1 rfl (Imp.pick 1 rfl Imp.nil)))).ent ⟨V, hV, .inr ⟨hnone, rfl, rfl⟩⟩)
  | none =>
    refine VC.draw (ts 0 7 .nil) (by kernel_rfl) (by decide +kernel) ?_
    (repeat (first | refine VA.go (VA.nil ?_) | refine VA.go (VA.ld 0 rfl rfl rfl rfl rfl ?_) | refine VA.go (VA.ld 1 rfl rfl rfl rfl rfl ?_) | refine VA.go (VA.ld 2 rfl rfl rfl rfl rfl ?_) | refine VA.go (VA.ld 3 rfl rfl rfl rfl rfl ?_) | refine VA.go (VA.offU rfl rfl rfl rfl ?_)))
    refine VA.go (VA.ldA 0 [.int .i64 s, .string (txt S)] rfl rfl rfl rfl rfl ?_)
    refine VA.go (VA.lookup keyP Tryd.underlying67 rfl rfl (a := ((s : Int), txt S)) rfl rfl (MpL.one (d := intV) (xs := V) 2 rfl) ?_)
    rw [hg]
    (repeat (first | refine VA.go (VA.nil ?_) | refine VA.go (VA.ld 0 rfl rfl rfl rfl rfl ?_) | refine VA.go (VA.ld 1 rfl rfl rfl rfl rfl ?_) | refine VA.go (VA.ld 2 rfl rfl rfl rfl rfl ?_) | refine VA.go (VA.ld 3 rfl rfl rfl rfl rfl ?_) | refine VA.go (VA.offU rfl rfl rfl rfl ?_)))
    refine VC.condF rfl (VC.skip ?_)
    (repeat (first | refine VC.seq ?_ | refine VC.region ?_ | refine VC.block ?_ | refine VC.label ?_ | refine VC.scope ?_ | refine VO.go (VO.nil ?_) | refine VO.go (VO.ld 0 rfl rfl rfl rfl ?_) | refine VO.go (VO.ld 1 rfl rfl rfl rfl ?_) | refine VO.go (VO.ld 2 rfl rfl rfl rfl ?_) | refine VO.go (VO.ld 3 rfl rfl rfl rfl ?_)))
    have hcl : ∀ {M : List HP}, Imp (pt hb2 [.int .i64 s, .string (txt S)] 87 :: (srL sp a l.length cap D V st (vb, oa, oc) ++ [])) (srH sp a l.length cap D V st :: pt hb2 [.int .i64 s, .string (txt S)] 87 :: []) := fun {M} =>
      Imp.sr (vb, oa, oc) hoc (Imp.pick 1 rfl (Imp.pick 1 rfl (Imp.pick 1 rfl Imp.refl)))
    refine VC.loop (σ := Nat × VM) (fun x => [(0, .pointer (some ⟨sp, 0, none⟩)), (1, .int .i64 s), (2, .int .i64 (upd l st)), (3, .pointer (some ⟨p, 0, none⟩)), (9, .pointer (some ⟨hb2, 0, none⟩)), (40, .slice a l.length cap), (41, .int .i64 l.length), (42, .int .i64 x.1)])
      (fun x => [srH sp a l.length cap D x.2 st, pt hb2 [.int .i64 s, .string (txt S)] 87]) (fun x => x.1 ≤ l.length ∧ VInv l x.2 ∧ (List.range l.length).findSome? (way l m st (mGet S) (upd l st)) = ((List.range l.length).drop x.1).findSome? (way l m st (mGet S) (upd l st))) (fun x => l.length - x.1) (0, V)
      ⟨Nat.zero_le _, hV, rfl⟩ (Sub.cons rfl (Sub.cons rfl (Sub.cons rfl (Sub.cons rfl (Sub.cons rfl (Sub.cons rfl (Sub.cons rfl (Sub.cons rfl (Sub.nil _))))))))) (hcl (M := [])).ent ?_
    rintro ⟨i, V2⟩ ⟨hi, hV2, hJ⟩
    dsimp only at hi hV2 hJ ⊢
    generalize hW : (List.range l.length).findSome? (way l m st (mGet S) (upd l st)) = W at hJ ⊢
    (repeat (first | refine VC.seq ?_ | refine VC.region ?_ | refine VC.block ?_ | refine VC.label ?_ | refine VC.scope ?_ | refine VO.go (VO.nil ?_) | refine VO.go (VO.ld 0 rfl rfl rfl rfl ?_)))
    refine VC.condP rfl (fun h2 => VC.skip ?_) (fun h2 => VC.exit ?_)
    · have hi2 : i < l.length := by omega
      rw [range_drop hi2, List.findSome?_cons] at hJ
      obtain ⟨fb, fo, rfl, ra, rc⟩ := RwIn.rd (X := ⟨Tryd.prog, tab, tabOk, 125, Fr, w⟩) hR (at_get hi2)
      have hop : opCheck (at_ l i).op = 0 := hops _ (List.mem_of_getElem? (at_get hi2))
      (repeat (first | refine VC.seq ?_ | refine VC.region ?_ | refine VC.block ?_ | refine VC.label ?_ | refine VC.scope ?_ | refine VO.go (VO.nil ?_) | refine VO.go (VO.ld 0 rfl rfl rfl rfl ?_)))
      refine VO.go (VO.light (light_idx i rfl rfl rfl rfl rfl rfl hi2) ?_)
      refine VO.go (VO.load rfl rfl (ra _ _ rfl rfl) ?_)
      refine VO.go (VO.alloc rfl fun rb => ?_)
      (repeat (first | refine VC.seq ?_ | refine VC.region ?_ | refine VC.block ?_ | refine VC.label ?_ | refine VC.scope ?_ | refine VO.go (VO.nil ?_) | refine VO.go (VO.ld 0 rfl rfl rfl rfl ?_)))
      refine VO.go (VO.stA (vs := recC (at_ l i)) 0 rfl rfl rfl rfl (Nat.le_refl _) rfl rfl rfl ?_)
      refine VO.go (VO.nil (VC.seq ?_))
      refine VC.meet (σ := Bool) (fun t => [(0, .pointer (some ⟨sp, 0, none⟩)), (1, .int .i64 s), (2, .int .i64 (upd l st)), (3, .pointer (some ⟨p, 0, none⟩)), (9, .pointer (some ⟨hb2, 0, none⟩)), (10, .int .i64 i), (11, .pointer (some ⟨rb, 0, none⟩)), (40, .slice (some ⟨fb, fo, none⟩) l.length cap), (41, .int .i64 l.length), (42, .int .i64 i), (63, .bool t)])
        (fun _ => [pt rb (recC (at_ l i)) 34, srH sp (some ⟨fb, fo, none⟩) l.length cap D V2 st, pt hb2 [.int .i64 s, .string (txt S)] 87]) (fun t => t = !may l st i) ?_ ?_
      · (repeat (first | refine VC.seq ?_ | refine VC.region ?_ | refine VC.block ?_ | refine VC.label ?_ | refine VC.scope ?_ | refine VO.go (VO.nil ?_) | refine VO.go (VO.ld 0 rfl rfl rfl rfl ?_)))
        refine VO.go (VO.light (light_bit rfl (by omega)) ?_)
        (repeat (first | refine VC.seq ?_ | refine VC.region ?_ | refine VC.block ?_ | refine VC.label ?_ | refine VC.scope ?_ | refine VO.go (VO.nil ?_) | refine VO.go (VO.ld 0 rfl rfl rfl rfl ?_)))
        refine VO.go (VO.light (light_and rfl rfl (by omega) (pow_small i (by omega))) ?_)
        (repeat (first | refine VC.seq ?_ | refine VC.region ?_ | refine VC.block ?_ | refine VC.label ?_ | refine VC.scope ?_ | refine VO.go (VO.nil ?_) | refine VO.go (VO.ld 0 rfl rfl rfl rfl ?_)))
        refine VO.go (VO.split 52 (b := st.contains i) (congrArg (fun b => some (Value.bool b)) (bit_ne hb i)) rfl (fun h3 => ?_) (fun h3 => ?_))
        · (repeat (first | refine VC.seq ?_ | refine VC.region ?_ | refine VC.block ?_ | refine VC.label ?_ | refine VC.scope ?_ | refine VO.go (VO.nil ?_) | refine VO.go (VO.ld 0 rfl rfl rfl rfl ?_) | refine VO.go (VO.offU rfl rfl rfl ?_)))
          refine VO.go (VO.yes 57 true rfl rfl ?_)
          (repeat (first | refine VC.seq ?_ | refine VC.region ?_ | refine VC.block ?_ | refine VC.label ?_ | refine VC.scope ?_ | refine VO.go (VO.nil ?_) | refine VO.go (VO.ld 0 rfl rfl rfl rfl ?_) | refine VO.go (VO.offU rfl rfl rfl ?_)))
          exact ⟨_, by rw [may_eq, h3]; rfl, Sub.cons rfl (Sub.cons rfl (Sub.cons rfl (Sub.cons rfl (Sub.cons rfl (Sub.cons rfl (Sub.cons rfl (Sub.cons rfl (Sub.cons rfl (Sub.cons rfl (Sub.cons rfl (Sub.nil _))))))))))), Ent.refl⟩
        · (repeat (first | refine VC.seq ?_ | refine VC.region ?_ | refine VC.block ?_ | refine VC.label ?_ | refine VC.scope ?_ | refine VO.go (VO.nil ?_) | refine VO.go (VO.ld 0 rfl rfl rfl rfl ?_) | refine VO.go (VO.offU rfl rfl rfl ?_)))
          refine VO.go (VO.ldA 0 (recC (at_ l i)) rfl rfl rfl rfl ?_)
          refine VO.go (VO.callV (fun Fr w => mayStand_spec Fr w (at_ l i)) rfl ?_)
          (repeat (first | refine VC.seq ?_ | refine VC.region ?_ | refine VC.block ?_ | refine VC.label ?_ | refine VC.scope ?_ | refine VO.go (VO.nil ?_) | refine VO.go (VO.ld 0 rfl rfl rfl rfl ?_) | refine VO.go (VO.offU rfl rfl rfl ?_)))
          refine VO.go (VO.split 57 rfl rfl (fun h4 => ?_) (fun h4 => ?_))
          · (repeat (first | refine VC.seq ?_ | refine VC.region ?_ | refine VC.block ?_ | refine VC.label ?_ | refine VC.scope ?_ | refine VO.go (VO.nil ?_) | refine VO.go (VO.ld 0 rfl rfl rfl rfl ?_) | refine VO.go (VO.offU rfl rfl rfl ?_)))
            exact ⟨_, by rw [may_eq, h3, show (at_ l i).stand = false by simpa using h4]; rfl, Sub.cons rfl (Sub.cons rfl (Sub.cons rfl (Sub.cons rfl (Sub.cons rfl (Sub.cons rfl (Sub.cons rfl (Sub.cons rfl (Sub.cons rfl (Sub.cons rfl (Sub.cons rfl (Sub.nil _))))))))))), Ent.refl⟩
          · (repeat (first | refine VC.seq ?_ | refine VC.region ?_ | refine VC.block ?_ | refine VC.label ?_ | refine VC.scope ?_ | refine VO.go (VO.nil ?_) | refine VO.go (VO.ld 0 rfl rfl rfl rfl ?_) | refine VO.go (VO.offU rfl rfl rfl ?_)))
            refine VO.go (VO.callP (φ := fun v => v = .bool (comeB l st i)) (fun Fr w hF hs hS => by
              obtain ⟨x1, x2, x3, hblk⟩ := sr_in (hS.at_ 1 rfl)
              exact mayCome_spec Fr w hblk (hR.of hF hs) (by omega) hb (by omega) i hi2) rfl ?_)
            rintro _ rfl
            (repeat (first | refine VC.seq ?_ | refine VC.region ?_ | refine VC.block ?_ | refine VC.label ?_ | refine VC.scope ?_ | refine VO.go (VO.nil ?_) | refine VO.go (VO.ld 0 rfl rfl rfl rfl ?_) | refine VO.go (VO.offU rfl rfl rfl ?_)))
            exact ⟨_, by rw [may_eq, h3, show (at_ l i).stand = true by simpa using h4]; simp, Sub.cons rfl (Sub.cons rfl (Sub.cons rfl (Sub.cons rfl (Sub.cons rfl (Sub.cons rfl (Sub.cons rfl (Sub.cons rfl (Sub.cons rfl (Sub.cons rfl (Sub.cons rfl (Sub.nil _))))))))))), Ent.refl⟩
      intro t ht
      refine VC.cond rfl (fun h3 => VC.exit ?_) (fun h3 => VC.skip ?_)
      · have hno := way_no (m := m) hSn (.inl (show may l st i = false by rw [h3] at ht; simpa using ht.symm))
        (repeat (first | refine VC.seq ?_ | refine VC.region ?_ | refine VC.block ?_ | refine VC.label ?_ | refine VC.scope ?_ | refine VO.go (VO.nil ?_) | refine VO.go (VO.ld 0 rfl rfl rfl rfl ?_)))
        refine VO.go (VO.add rfl rfl (by omega) (by omega) ?_)
        (repeat (first | refine VC.seq ?_ | refine VC.region ?_ | refine VC.block ?_ | refine VC.label ?_ | refine VC.scope ?_ | refine VO.go (VO.nil ?_) | refine VO.go (VO.ld 0 rfl rfl rfl rfl ?_)))
        refine ⟨(i + 1, V2), ⟨hi2, hV2, ?_⟩, by dsimp only; omega, Sub.cons rfl (Sub.cons rfl (Sub.cons rfl (Sub.cons rfl (Sub.cons rfl (Sub.cons rfl (Sub.cons rfl (Sub.cons rfl (Sub.nil _)))))))), (Imp.pick 1 rfl (Imp.pick 1 rfl Imp.nil)).ent⟩
        rw [hno] at hJ
        exact hJ
      have hmay : may l st i = true := by rw [h3] at ht; simpa using ht.symm
      obtain ⟨hni, hstand⟩ := may_of hmay
      have hn' := stpK_n (S := S) hi2 hni
      have hu2 := upd_le l (st ++ [i])
      have hG2 := stpK_good (r := at_ l i) hG (by omega) hop
      (repeat (first | refine VC.seq ?_ | refine VC.region ?_ | refine VC.block ?_ | refine VC.label ?_ | refine VC.scope ?_ | refine VO.go (VO.nil ?_) | refine VO.go (VO.ld 0 rfl rfl rfl rfl ?_)))
      refine VO.go (VO.call (Lc := []) (fun Fr w hF hs _ => copy_spec Fr w (hK.of hF hs)) rfl rfl ?_)
      rintro _ _ ⟨p2, rfl, rfl⟩
      (repeat (first | refine VC.seq ?_ | refine VC.region ?_ | refine VC.block ?_ | refine VC.label ?_ | refine VC.scope ?_ | refine VO.go (VO.nil ?_) | refine VO.go (VO.ld 0 rfl rfl rfl rfl ?_)))
      refine VO.go (VO.alloc rfl fun r => ?_)
      refine VO.go (VO.nil ?_)
      refine VC.meet (σ := Unit) (fun _ => [(0, .pointer (some ⟨sp, 0, none⟩)), (1, .int .i64 s), (2, .int .i64 (upd l st)), (3, .pointer (some ⟨p, 0, none⟩)), (9, .pointer (some ⟨hb2, 0, none⟩)), (10, .int .i64 i), (11, .pointer (some ⟨rb, 0, none⟩)), (12, .pointer (some ⟨p2, 0, none⟩)), (13, .int .i64 (upd l (st ++ [i]))), (14, .pointer (some ⟨r, 0, none⟩)), (40, .slice (some ⟨fb, fo, none⟩) l.length cap), (41, .int .i64 l.length), (42, .int .i64 i)])
        (fun _ => [pt r (resC (stpK S (upd l st) (at_ l i)).2.2) 29, kvH p2 (stpK S (upd l st) (at_ l i)).1, pt rb (recC (at_ l i)) 34, srH sp (some ⟨fb, fo, none⟩) l.length cap D V2 st, pt hb2 [.int .i64 s, .string (txt S)] 87]) (fun _ => True) ?_ ?_
      · (repeat (first | refine VC.seq ?_ | refine VC.region ?_ | refine VC.block ?_ | refine VC.label ?_ | refine VC.scope ?_ | refine VO.go (VO.nil ?_) | refine VO.go (VO.ld 0 rfl rfl rfl rfl ?_)))
        refine VO.go (VO.ldA 2 (at_ l i).op.cells rfl rfl rfl rfl ?_)
        refine VO.go (VO.callV (fun Fr w => reads_spec Fr w (at_ l i).op) rfl ?_)
        refine VO.go (VO.nil ?_)
        refine VC.cond rfl (fun h4 => ?_) (fun h4 => ?_)
        · have e1 : stpK S (upd l st) (at_ l i) = (S, upd l st, kvLook S (at_ l i).op.key (upd l st)) := by unfold stpK; rw [if_pos (show reads (at_ l i).op = true from h4)]
          rw [e1] at hn' ⊢
          (repeat (first | refine VC.seq ?_ | refine VC.region ?_ | refine VC.block ?_ | refine VC.label ?_ | refine VC.scope ?_ | refine VO.go (VO.nil ?_) | refine VO.go (VO.ld 0 rfl rfl rfl rfl ?_) | refine VO.go (VO.ld 1 rfl rfl rfl rfl ?_) | refine VO.go (VO.ld 2 rfl rfl rfl rfl ?_)))
          refine VO.go (VO.callV' (fun Fr w hF hs hS => look_spec Fr w (hS.at_ 1 rfl) (at_ l i).op.key (upd l st)) rfl ?_)
          refine VO.go (VO.stA (vs := resC (kvLook S (at_ l i).op.key (upd l st))) 0 rfl rfl rfl rfl (Nat.le_refl _) rfl rfl rfl ?_)
          (repeat (first | refine VC.seq ?_ | refine VC.region ?_ | refine VC.block ?_ | refine VC.label ?_ | refine VC.scope ?_ | refine VO.go (VO.nil ?_) | refine VO.go (VO.ld 0 rfl rfl rfl rfl ?_)))
          exact ⟨(), trivial, Sub.cons rfl (Sub.cons rfl (Sub.cons rfl (Sub.cons rfl (Sub.cons rfl (Sub.cons rfl (Sub.cons rfl (Sub.cons rfl (Sub.int rfl (by rw [← hn'] <;> rfl) (Sub.cons rfl (Sub.cons rfl (Sub.cons rfl (Sub.cons rfl (Sub.nil _))))))))))))), Ent.refl⟩
        · have e1 : stpK S (upd l st) (at_ l i) = ((kvApply S (upd l st + 1 : Nat) (at_ l i).op).1, upd l st + 1, (kvApply S (upd l st + 1 : Nat) (at_ l i).op).2) := by unfold stpK; rw [if_neg (by rw [show reads (at_ l i).op = false from h4]; simp)]
          rw [e1] at hn' ⊢
          (repeat (first | refine VC.seq ?_ | refine VC.region ?_ | refine VC.block ?_ | refine VC.label ?_ | refine VC.scope ?_ | refine VO.go (VO.nil ?_) | refine VO.go (VO.ld 0 rfl rfl rfl rfl ?_)))
          refine VO.go (VO.add rfl rfl (by omega) (by omega) ?_)
          (repeat (first | refine VC.seq ?_ | refine VC.region ?_ | refine VC.block ?_ | refine VC.label ?_ | refine VC.scope ?_ | refine VO.go (VO.nil ?_) | refine VO.go (VO.ld 0 rfl rfl rfl rfl ?_) | refine VO.go (VO.ld 1 rfl rfl rfl rfl ?_) | refine VO.go (VO.ld 2 rfl rfl rfl rfl ?_)))
          refine VO.go (VO.ldA 2 (at_ l i).op.cells rfl rfl rfl rfl ?_)
          refine VO.go (VO.callAt 1 rfl (fun Fr w hF hs hS => apply_spec Fr w p2 S (upd l st + 1 : Nat) (at_ l i).op) rfl (ψ := fun v H => v = .agg (resC (kvApply S (upd l st + 1 : Nat) (at_ l i).op).2).toArray ∧ H = kvH p2 (kvApply S (upd l st + 1 : Nat) (at_ l i).op).1) (fun v L h => ⟨_, h.2, h.1, rfl⟩) ?_)
          rintro _ _ ⟨rfl, rfl⟩
          refine VO.go (VO.stA (vs := resC (kvApply S (upd l st + 1 : Nat) (at_ l i).op).2) 0 rfl rfl rfl rfl (Nat.le_refl _) rfl rfl rfl ?_)
          (repeat (first | refine VC.seq ?_ | refine VC.region ?_ | refine VC.block ?_ | refine VC.label ?_ | refine VC.scope ?_ | refine VO.go (VO.nil ?_) | refine VO.go (VO.ld 0 rfl rfl rfl rfl ?_)))
          exact ⟨(), trivial, Sub.cons rfl (Sub.cons rfl (Sub.cons rfl (Sub.cons rfl (Sub.cons rfl (Sub.cons rfl (Sub.cons rfl (Sub.cons rfl (Sub.int rfl (by rw [← hn'] <;> rfl) (Sub.cons rfl (Sub.cons rfl (Sub.cons rfl (Sub.cons rfl (Sub.nil _))))))))))))), Ent.refl⟩
      intro _ _
      generalize hx : (stpK S (upd l st) (at_ l i)).2.2 = x
      generalize hS2 : (stpK S (upd l st) (at_ l i)).1 = S2
      rw [hS2, hn'] at hG2
      (repeat (first | refine VC.seq ?_ | refine VC.region ?_ | refine VC.block ?_ | refine VC.label ?_ | refine VC.scope ?_ | refine VO.go (VO.nil ?_) | refine VO.go (VO.ld 0 rfl rfl rfl rfl ?_)))
      refine VO.go (VO.ldA 2 (recC (at_ l i)) rfl rfl rfl rfl ?_)
      refine VO.go (VO.ldA 0 (resC x) rfl rfl rfl rfl ?_)
      refine VO.go (VO.callV (fun Fr w => tells_spec Fr w (at_ l i) x) rfl ?_)
      (repeat (first | refine VC.seq ?_ | refine VC.region ?_ | refine VC.block ?_ | refine VC.label ?_ | refine VC.scope ?_ | refine VO.go (VO.nil ?_) | refine VO.go (VO.ld 0 rfl rfl rfl rfl ?_)))
      refine VC.condN rfl (fun h4 => VC.exit ?_) (fun h4 => VC.skip ?_)
      · have hno := way_no (m := m) hSn (.inr (show tells (at_ l i) (stpK S (upd l st) (at_ l i)).2.2 = false by rw [hx]; exact h4))
        (repeat (first | refine VC.seq ?_ | refine VC.region ?_ | refine VC.block ?_ | refine VC.label ?_ | refine VC.scope ?_ | refine VO.go (VO.nil ?_) | refine VO.go (VO.ld 0 rfl rfl rfl rfl ?_)))
        refine VO.go (VO.add rfl rfl (by omega) (by omega) ?_)
        (repeat (first | refine VC.seq ?_ | refine VC.region ?_ | refine VC.block ?_ | refine VC.label ?_ | refine VC.scope ?_ | refine VO.go (VO.nil ?_) | refine VO.go (VO.ld 0 rfl rfl rfl rfl ?_)))
        refine ⟨(i + 1, V2), ⟨hi2, hV2, ?_⟩, by dsimp only; omega, Sub.cons rfl (Sub.cons rfl (Sub.cons rfl (Sub.cons rfl (Sub.cons rfl (Sub.cons rfl (Sub.cons rfl (Sub.cons rfl (Sub.nil _)))))))), (Imp.pick 3 rfl (Imp.pick 3 rfl Imp.nil)).ent⟩
        rw [hno] at hJ
        exact hJ
      have hway := way_eq (m := m) hSn hi2 hmay (by rw [hx]; exact h4)
      rw [hS2] at hway
      (repeat (first | refine VC.seq ?_ | refine VC.region ?_ | refine VC.block ?_ | refine VC.label ?_ | refine VC.scope ?_ | refine VO.go (VO.nil ?_) | refine VO.go (VO.ld 0 rfl rfl rfl rfl ?_)))
      refine VO.opn 3 rfl (HOpn.sr sp (some ⟨fb, fo, none⟩) l.length cap D V2 st) ?_
      rintro ⟨vb2, oa2, oc2⟩ hoc2
      dsimp only at hoc2
      (repeat (first | refine VC.seq ?_ | refine VC.region ?_ | refine VC.block ?_ | refine VC.label ?_ | refine VC.scope ?_ | refine VO.go (VO.nil ?_) | refine VO.go (VO.ld 0 rfl rfl rfl rfl ?_)))
      refine VO.go (VO.buildSlice [.int .i64 i] rfl rfl rfl rfl (by decide) rfl fun nb => ?_)
      refine VO.go (VO.append (m := 1) (news := [.int .i64 i]) 3 rfl rfl rfl rfl rfl rfl rfl (RdRow.pt 0 rfl rfl rfl) rfl (by show (st.length + 1) * 8 ≤ _; omega) (by omega) ?_)
      intro oa3 oc3 hoc3
      (repeat (first | refine VC.seq ?_ | refine VC.region ?_ | refine VC.block ?_ | refine VC.label ?_ | refine VC.scope ?_ | refine VO.go (VO.nil ?_) | refine VO.go (VO.ld 0 rfl rfl rfl rfl ?_)))
      refine VO.go (VO.st 2 (cs' := [.slice (some ⟨fb, fo, none⟩) l.length cap, .int .i64 (D : Int), .map (some vb2), .slice oa3 (st ++ [i]).length oc3]) rfl rfl rfl rfl (by show 0 + 3 < 4; omega) (by rw [List.length_append]; rfl) rfl ?_)
      have hsl : slH 3 1 oa3 (st.length + 1) oc3 (ordC st ++ [.int .i64 (i : Int)]) = slH 3 1 oa3 (st ++ [i]).length oc3 (ordC (st ++ [i])) := by rw [ordC_snoc, List.length_append]; rfl
      rw [hsl]
      refine VO.ent (L' := [srH sp (some ⟨fb, fo, none⟩) l.length cap D V2 (st ++ [i]), kvH p2 S2, pt rb (recC (at_ l i)) 34, pt hb2 [.int .i64 s, .string (txt S)] 87]) (Imp.sr (vb2, oa3, oc3) (by rw [List.length_append]; exact hoc3) (Imp.pick 2 rfl (Imp.pick 2 rfl (Imp.pick 0 rfl (Imp.pick 2 rfl (Imp.pick 2 rfl (Imp.pick 2 rfl Imp.nil))))))).ent ?_
      (repeat (first | refine VC.seq ?_ | refine VC.region ?_ | refine VC.block ?_ | refine VC.label ?_ | refine VC.scope ?_ | refine VO.go (VO.nil ?_) | refine VO.go (VO.ld 0 rfl rfl rfl rfl ?_)))
      refine VO.go (VO.light (light_bit rfl (by omega)) ?_)
      (repeat (first | refine VC.seq ?_ | refine VC.region ?_ | refine VC.block ?_ | refine VC.label ?_ | refine VC.scope ?_ | refine VO.go (VO.nil ?_) | refine VO.go (VO.ld 0 rfl rfl rfl rfl ?_)))
      refine VO.go (VO.light (light_or rfl rfl (by omega) (pow_small i (by omega))) ?_)
      (repeat (first | refine VC.seq ?_ | refine VC.region ?_ | refine VC.block ?_ | refine VC.label ?_ | refine VC.scope ?_ | refine VO.go (VO.nil ?_) | refine VO.go (VO.ld 0 rfl rfl rfl rfl ?_)))
      refine VO.go (VO.call (Lc := [srH sp (some ⟨fb, fo, none⟩) l.length cap D V2 (st ++ [i])]) (Lr := [kvH p2 S2, pt rb (recC (at_ l i)) 34, pt hb2 [.int .i64 s, .string (txt S)] 87])
        (fun Fr w hF hs hS => ih m (by omega) Fr w (hR.of hF hs) (hS.at_ 0 rfl) hG2 (TabF.st rfl hT hF hs) (hb.snoc i) (List.nodup_append.2 ⟨hnd, by simp, fun j hj y hy e => by simp at hy; rw [e, hy] at hj; exact hni hj⟩) (fun j hj => by
          rcases List.mem_append.1 hj with hj | hj
          · exact hlt j hj
          · simp at hj; omega) (by rw [List.length_append]; simp; omega) hV2) rfl rfl ?_)
      rintro v L1 ⟨V3, hV3, ⟨o, ho, rfl, rfl⟩ | ⟨ho, rfl, rfl⟩⟩
      · (repeat (first | refine VC.seq ?_ | refine VC.region ?_ | refine VC.block ?_ | refine VC.label ?_ | refine VC.scope ?_ | refine VO.go (VO.nil ?_) | refine VO.go (VO.ld 0 rfl rfl rfl rfl ?_)))
        refine VC.condT rfl ?_
        (repeat (first | refine VC.seq ?_ | refine VC.region ?_ | refine VC.block ?_ | refine VC.label ?_ | refine VC.scope ?_ | refine VO.go (VO.nil ?_) | refine VO.go (VO.ld 0 rfl rfl rfl rfl ?_)))
        refine VC.ret (Ret.tmp 8 rfl rfl (Imp.pick 0 rfl Imp.nil).ent ⟨V3, hV3, .inl ⟨o, ?_, rfl, rfl⟩⟩)
        rw [hway, ho] at hJ
        exact hJ
      · rw [hway, ho] at hJ
        (repeat (first | refine VC.seq ?_ | refine VC.region ?_ | refine VC.block ?_ | refine VC.label ?_ | refine VC.scope ?_ | refine VO.go (VO.nil ?_) | refine VO.go (VO.ld 0 rfl rfl rfl rfl ?_)))
        refine VC.condF rfl (VC.skip ?_)
        refine VC.opn 0 rfl (HOpn.sr sp (some ⟨fb, fo, none⟩) l.length cap D V3 (st ++ [i])) ?_
        rintro ⟨vb4, oa4, oc4⟩ hoc4
        dsimp only at hoc4
        have hl1 : (st ++ [i]).length = st.length + 1 := by simp
        refine VC.draw (ts 0 14 (.only 14 .nil)) (by kernel_rfl) (by decide +kernel) ?_
        (repeat (first | refine VA.go (VA.nil ?_) | refine VA.go (VA.ld 0 rfl rfl rfl rfl rfl ?_) | refine VA.go (VA.ld 1 rfl rfl rfl rfl rfl ?_) | refine VA.go (VA.ld 2 rfl rfl rfl rfl rfl ?_) | refine VA.go (VA.offU rfl rfl rfl rfl ?_)))
        refine VA.go (VA.sub' rfl rfl rfl (by omega) (by omega) ?_)
        (repeat (first | refine VA.go (VA.nil ?_) | refine VA.go (VA.ld 0 rfl rfl rfl rfl rfl ?_) | refine VA.go (VA.ld 1 rfl rfl rfl rfl rfl ?_) | refine VA.go (VA.ld 2 rfl rfl rfl rfl rfl ?_) | refine VA.go (VA.offU rfl rfl rfl rfl ?_)))
        refine VA.go (VA.light rfl (light_head st.length rfl rfl rfl rfl rfl (by show ((st ++ [i]).length : Int) - 1 = (st.length : Int); rw [hl1]; omega) (by rw [hl1] at hoc4; dsimp only; omega)) ?_)
        (repeat (first | refine VA.go (VA.nil ?_) | refine VA.go (VA.ld 0 rfl rfl rfl rfl rfl ?_) | refine VA.go (VA.ld 1 rfl rfl rfl rfl rfl ?_) | refine VA.go (VA.ld 2 rfl rfl rfl rfl rfl ?_) | refine VA.go (VA.offU rfl rfl rfl rfl ?_)))
        refine VA.go (VA.st 0 (cs' := [.slice (some ⟨fb, fo, none⟩) l.length cap, .int .i64 (D : Int), .map (some vb4), .slice oa4 st.length oc4]) rfl rfl rfl rfl rfl (by show 0 + 3 < 4; omega) rfl rfl (by (try refine Pd.st ?_); (repeat (first | exact Pd.nil | exact Pd.fnil | refine Pd.inner ?_ | refine Pd.skip (by decide +kernel) ?_ | refine Pd.fcons (RdL.one 0 rfl rfl) ?_ | refine Pd.fcons (RdL.one 1 rfl rfl) ?_ | refine Pd.fcons (RdL.one 2 rfl rfl) ?_ | refine Pd.fcons (RdL.one 3 rfl rfl) ?_ | refine Pd.fcons (RdL.many 0 rfl rfl) ?_ | refine Pd.fcons (RdL.many 1 rfl rfl) ?_ | refine Pd.fcons (RdL.many 2 rfl rfl) ?_ | refine Pd.fcons (RdL.many 3 rfl rfl) ?_ | refine Pd.cons (RdL.one 0 rfl rfl) ?_ | refine Pd.cons (RdL.one 1 rfl rfl) ?_ | refine Pd.cons (RdL.one 2 rfl rfl) ?_ | refine Pd.cons (RdL.one 3 rfl rfl) ?_ | refine Pd.cons (RdL.many 0 rfl rfl) ?_ | refine Pd.cons (RdL.many 1 rfl rfl) ?_ | refine Pd.cons (RdL.many 2 rfl rfl) ?_ | refine Pd.cons (RdL.many 3 rfl rfl) ?_ | refine Pd.fconsM (MpL.one 0 rfl) ?_ | refine Pd.fconsM (MpL.one 1 rfl) ?_ | refine Pd.fconsM (MpL.one 2 rfl) ?_ | refine Pd.fconsM (MpL.one 3 rfl) ?_ | refine Pd.consM (MpL.one 0 rfl) ?_ | refine Pd.consM (MpL.one 1 rfl) ?_ | refine Pd.consM (MpL.one 2 rfl) ?_ | refine Pd.consM (MpL.one 3 rfl) ?_))) ?_)
        refine VA.go (VA.nil ?_)
        (repeat (first | refine VC.seq ?_ | refine VC.region ?_ | refine VC.block ?_ | refine VC.label ?_ | refine VC.scope ?_ | refine VO.go (VO.nil ?_) | refine VO.go (VO.ld 0 rfl rfl rfl rfl ?_)))
        refine VO.go (VO.add rfl rfl (by omega) (by omega) ?_)
        (repeat (first | refine VC.seq ?_ | refine VC.region ?_ | refine VC.block ?_ | refine VC.label ?_ | refine VC.scope ?_ | refine VO.go (VO.nil ?_) | refine VO.go (VO.ld 0 rfl rfl rfl rfl ?_)))
        have hcut : (ordC (st ++ [i])).take (st.length * 1) = ordC st := by rw [← ordC_snoc, Nat.mul_one, List.take_left' (ordC_len st)]
        have h4 : ∀ {M N : List HP}, Imp M (slH 3 1 oa4 (st ++ [i]).length oc4 (ordC (st ++ [i])) :: N) → Imp M (slH 3 1 oa4 st.length oc4 (ordC st) :: N) := fun h => by
          have := Imp.slCut st.length (by omega) h
          rw [hcut] at this; exact this
        refine ⟨(i + 1, V3), ⟨hi2, hV3, hJ⟩, by dsimp only; omega, Sub.cons rfl (Sub.cons rfl (Sub.cons rfl (Sub.cons rfl (Sub.cons rfl (Sub.cons rfl (Sub.cons rfl (Sub.cons rfl (Sub.nil _)))))))), ?_⟩
        refine (Imp.sr (vb4, oa4, oc4) (by dsimp only; omega) (Imp.pick 0 rfl (Imp.pick 0 rfl (h4 (Imp.pick 0 rfl (Imp.pick 2 rfl Imp.nil)))))).ent
    · have hi3 : i = l.length := by omega
      subst hi3
      rw [List.drop_of_length_le (by simp), List.findSome?_nil] at hJ
      refine VC.opn 0 rfl (HOpn.sr sp a l.length cap D V2 st) ?_
      rintro ⟨vb4, oa4, oc4⟩ hoc4
      dsimp only at hoc4
      refine VC.seq (VC.draw (ts 0 5 (.only 5 .nil)) (by kernel_rfl) (by decide +kernel) ?_)
      (repeat (first | refine VA.go (VA.nil ?_) | refine VA.go (VA.ld 0 rfl rfl rfl rfl rfl ?_) | refine VA.go (VA.ld 1 rfl rfl rfl rfl rfl ?_) | refine VA.go (VA.ld 2 rfl rfl rfl rfl rfl ?_) | refine VA.go (VA.offU rfl rfl rfl rfl ?_)))
      refine VA.go (VA.ldA 3 [.int .i64 s, .string (txt S)] rfl rfl rfl rfl rfl ?_)
      refine VA.go (VA.opP (OpT.mapUpdate (d := intV) (u := 1) 1 keyP Tryd.underlying67 (a := ((s : Int), txt S)) rfl rfl rfl rfl) rfl ?_ ?_)
      · rintro v L' ⟨rfl, rfl⟩
        exact (by (try refine Pd.st ?_); (repeat (first | exact Pd.nil | exact Pd.fnil | refine Pd.inner ?_ | refine Pd.skip (by decide +kernel) ?_ | refine Pd.fcons (RdL.one 0 rfl rfl) ?_ | refine Pd.fcons (RdL.one 1 rfl rfl) ?_ | refine Pd.fcons (RdL.one 2 rfl rfl) ?_ | refine Pd.fcons (RdL.one 3 rfl rfl) ?_ | refine Pd.fcons (RdL.many 0 rfl rfl) ?_ | refine Pd.fcons (RdL.many 1 rfl rfl) ?_ | refine Pd.fcons (RdL.many 2 rfl rfl) ?_ | refine Pd.fcons (RdL.many 3 rfl rfl) ?_ | refine Pd.cons (RdL.one 0 rfl rfl) ?_ | refine Pd.cons (RdL.one 1 rfl rfl) ?_ | refine Pd.cons (RdL.one 2 rfl rfl) ?_ | refine Pd.cons (RdL.one 3 rfl rfl) ?_ | refine Pd.cons (RdL.many 0 rfl rfl) ?_ | refine Pd.cons (RdL.many 1 rfl rfl) ?_ | refine Pd.cons (RdL.many 2 rfl rfl) ?_ | refine Pd.cons (RdL.many 3 rfl rfl) ?_ | refine Pd.fconsM (MpL.one 0 rfl) ?_ | refine Pd.fconsM (MpL.one 1 rfl) ?_ | refine Pd.fconsM (MpL.one 2 rfl) ?_ | refine Pd.fconsM (MpL.one 3 rfl) ?_ | refine Pd.consM (MpL.one 0 rfl) ?_ | refine Pd.consM (MpL.one 1 rfl) ?_ | refine Pd.consM (MpL.one 2 rfl) ?_ | refine Pd.consM (MpL.one 3 rfl) ?_)))
      rintro v L' ⟨rfl, rfl⟩
      refine VA.go (VA.nil ?_)
      (repeat (first | refine VC.seq ?_ | refine VC.region ?_ | refine VC.block ?_ | refine VC.label ?_ | refine VC.scope ?_ | refine VO.go (VO.nil ?_) | refine VO.go (VO.ld 0 rfl rfl rfl rfl ?_)))
      have hnone : solve l (m + 1) st (mGet S) (upd l st) = none := by rw [solve_succ l m st _ _ h1, hW]; exact hJ
      refine VC.ret (Ret.tmp 8 rfl rfl (Imp.sr (vb4, oa4, oc4) hoc4 (Imp.pick 0 rfl (Imp.pick 0 rfl (Imp.pick 0 rfl Imp.nil)))).ent ⟨mPut V2 ((s : Int), txt S) 1, hV2.put hb hnd hm hnone, .inr ⟨hJ, rfl, rfl⟩⟩)
end Go.Proofs.YthabecjplpomhaaDoor.Br
