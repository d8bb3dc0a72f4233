/- Reads that wait: those that are taken out. No condition. -/
import Derived.Test.YtbbnmgakmcppdaaGreatRd
import Derived.Test.YtbbnmgakmcppdaaGreatVgW
namespace Go.Proofs.YtbbnmgakmcppdaaGreat.Rd
open Go Go.Proofs.YtbbnmgakmcppdaaGreat.Vg Go.Proofs.YtbbnmgakmcppdaaGreat.T Go.Proofs.YtbbnmgakmcppdaaGreat.Api Go.Proofs.YtbbnmgakmcppdaaGreat.Kv Go.Proofs.YtbbnmgakmcppdaaGreat.Ch
set_option linter.unusedSimpArgs false
set_option linter.unusedVariables false
attribute [local irreducible] VO VC VA

theorem blk_keep {Fr Fr' : Nat → Prop} {w w' : World} {b : Nat} {cs : List Value} (h : Blk Fr w b cs) (hF : ∀ b, Fr b → Fr' b) (hk : Keep Fr w w') : Blk Fr' w' b cs := by
  obtain ⟨t, fz, ht⟩ := h.at_
  exact ⟨hF b h.fr, t, fz, by rw [hk.block b h.fr]; exact ht⟩
set_option maxRecDepth 100000 in
set_option maxHeartbeats 2000000 in
theorem take_spec (Fr : Nat → Prop) (w : World) (p : Nat) (R : RdsM) (hc : 1 ≤ R.cap) (hl : R.l.length ≤ 100) (g : FuncId) (capt : List Value) (st : RdM → Bool)
    (hg : ∀ Fr' w', (∀ b, Fr b → Fr' b) → Keep Fr w w' → ∀ row : RdR, Tri Tryz.prog g (.agg (rdC row).toArray :: capt) Fr' w' [] (fun v L => v = .bool (st row.1) ∧ L = [])) :
    Tri Tryz.prog 151 [.pointer (some ⟨p, 0, none⟩), fnV g [] capt] Fr w [rdsH p R]
      (fun v L => ∃ a c rows, rows.map Prod.fst = R.l.filter (fun x => !st x) ∧ v = .slice a rows.length c ∧ L = [rdsH p { R with l := R.l.filter st }, slH rdT 34 a rows.length c (flat rdC rows)]) := by
  refine Tri.of 37 Tryz.func151 rfl (by kernel_rfl) tabOk rfl rfl ?_
  refine VC.opn 0 rfl (HOpn.rds p R) ?_
  rintro x hx
  have hlen := hx.len
  unfold rdsL
  show VC _ _ _ [pt p (rdsCs R x) rdsT, slH rdT 34 x.a x.rows.length x.c (flat rdC x.rows)] _
  (repeat (first|refine zS ?_|refine zR ?_|refine zB ?_|refine zL ?_|refine zC ?_|refine zG (zN ?_)|refine zG (zD 0 rfl rfl rfl rfl ?_)))
  refine VO.go (VO.callV' (fun Fr w hF hs hS => none_spec Fr w (hS.blk 0 rfl) hc) rfl ?_)
  (repeat (first|refine zS ?_|refine zR ?_|refine zB ?_|refine zL ?_|refine zC ?_|refine zG (zN ?_)|refine zG (zD 0 rfl rfl rfl rfl ?_)))
  refine VC.condF rfl (VC.skip ?_)
  refine VC.opn 1 rfl (HOpn.rl rdT x.a x.c x.rows rdC_len) ?_
  rintro r ⟨rok, hrv, hrx⟩
  show VC _ _ _ [r.h rdT, pt p (rdsCs R x) rdsT] _
  (repeat (first|refine zS ?_|refine zR ?_|refine zB ?_|refine zL ?_|refine zC ?_|refine zG (zN ?_)|refine zG (zD 0 rfl rfl rfl rfl ?_)|refine zG (zD 1 rfl rfl rfl rfl ?_)))
  refine VC.loop (σ := Nat × List RdR × List RdR × (Option Addr × Nat) × (Option Addr × Nat)) (fun y => [(0, .pointer (some ⟨p, 0, none⟩)), (1, fnV g [] capt), (5, .slice y.2.2.2.1.1 y.2.1.length y.2.2.2.1.2), (6, .slice y.2.2.2.2.1 y.2.2.1.length y.2.2.2.2.2), (14, .slice x.a x.rows.length x.c), (15, .int .i64 x.rows.length), (16, .int .i64 y.1)])
    (fun y => [slH rdT 34 y.2.2.2.1.1 y.2.1.length y.2.2.2.1.2 (flat rdC y.2.1), slH rdT 34 y.2.2.2.2.1 y.2.2.1.length y.2.2.2.2.2 (flat rdC y.2.2.1), pt p (rdsCs R x) rdsT, r.h rdT])
    (fun y => y.1 ≤ x.rows.length ∧ y.2.1.map Prod.fst = (R.l.take y.1).filter st ∧ y.2.2.1.map Prod.fst = (R.l.take y.1).filter (fun z => !st z) ∧ y.2.1.length ≤ y.1 ∧ y.2.2.1.length ≤ y.1) (fun y => x.rows.length - y.1) (0, [], [], (none, 0), (none, 0))
    ⟨Nat.zero_le _, rfl, rfl, Nat.le_refl _, Nat.le_refl _⟩ (Sub.cons rfl (Sub.cons rfl (Sub.cons rfl (Sub.cons rfl (Sub.cons rfl (Sub.cons rfl (Sub.cons rfl (Sub.nil _)))))))) (Imp.slNil (Imp.slNil (Imp.pick 1 rfl (Imp.pick 0 rfl Imp.nil)))).ent ?_
  rintro ⟨i, K, D, ⟨ak, ck⟩, ⟨ag, cg⟩⟩ ⟨hi, hK, hD, hKl, hDl⟩
  dsimp only at hi hK hD hKl hDl ⊢
  (repeat (first|refine zS ?_|refine zR ?_|refine zB ?_|refine zL ?_|refine zC ?_|refine zG (zN ?_)|refine zG (zD 0 rfl rfl rfl rfl ?_)))
  refine VC.condP rfl (fun h1 => VC.skip ?_) (fun h1 => VC.exit ?_)
  · have hi2 : i < x.rows.length := by omega
    obtain ⟨row, hrow⟩ : ∃ row, x.rows[i]? = some row := ⟨_, List.getElem?_eq_getElem hi2⟩
    have hli : R.l[i]? = some row.1 := by rw [← hx, List.getElem?_map, hrow]; rfl
    have htk : R.l.take (i + 1) = R.l.take i ++ [row.1] := by rw [List.take_add_one, hli]; rfl
    obtain ⟨rb, ro, r1, r2, hrd⟩ := rok.ld (t := rdT) (hrx ▸ hrow) rfl
    have hxa : x.a = some ⟨rb, ro, none⟩ := by rw [RL.v, r2, hrx] at hrv; injection hrv with e1; exact e1.symm
    rw [hxa]
    (repeat (first|refine zS ?_|refine zR ?_|refine zB ?_|refine zL ?_|refine zC ?_|refine zG (zN ?_)|refine zG (zD 0 rfl rfl rfl rfl ?_)))
    refine VO.go (VO.light (light_idx i rfl rfl rfl rfl rfl rfl hi2) ?_)
    refine VO.go (VO.load rfl rfl ((hrd 3 rfl).1 _ rfl rfl) ?_)
    refine VO.go (VO.alloc rfl fun tb => ?_)
    refine VO.go (VO.stA (vs := rdC row) 0 rfl rfl rfl rfl (Nat.le_refl _) rfl rfl rfl ?_)
    (repeat (first|refine zS ?_|refine zR ?_|refine zB ?_|refine zL ?_|refine zC ?_|refine zG (zN ?_)|refine zG (zD 0 rfl rfl rfl rfl ?_)))
    refine VO.go (VO.ldA 0 (rdC row) rfl rfl rfl rfl ?_)
    refine VO.go (VO.callFV (u := .bool (st row.1)) rfl (fun Fr w hF hs hS => hg Fr w hF hs.keep row) rfl ?_)
    (repeat (first|refine zS ?_|refine zR ?_|refine zB ?_|refine zL ?_|refine zC ?_|refine zG (zN ?_)|refine zG (zD 0 rfl rfl rfl rfl ?_)))
    refine VC.cond rfl (fun hst => ?_) (fun hst => ?_)
    · (repeat (first|refine zS ?_|refine zR ?_|refine zB ?_|refine zL ?_|refine zC ?_|refine zG (zN ?_)|refine zG (zD 0 rfl rfl rfl rfl ?_)))
      refine VO.go (VO.ldA 0 (rdC row) rfl rfl rfl rfl ?_)
      refine VO.go (VO.buildSlice (n := 1) (pv := [(0, .agg (rdC row).toArray)]) (rdC row) rfl rfl rfl rfl (by decide) (fill_one rfl rfl rfl) fun nb => ?_)
      refine VO.go (VO.append (m := 1) (news := rdC row) 2 rfl rfl rfl rfl rfl rfl rfl (RdRow.pt 0 rfl rfl rfl) rfl (small_bytes (k := 201) (by omega) (by decide)) (by omega) fun a2 c2 hc2 => ?_)
      (repeat (first|refine zS ?_|refine zR ?_|refine zB ?_|refine zL ?_|refine zC ?_|refine zG (zN ?_)|refine zG (zD 0 rfl rfl rfl rfl ?_)))
      refine VO.go (VO.add rfl rfl (by omega) (by omega) ?_)
      (repeat (first|refine zS ?_|refine zR ?_|refine zB ?_|refine zL ?_|refine zC ?_|refine zG (zN ?_)|refine zG (zD 0 rfl rfl rfl rfl ?_)))
      have hL : (K ++ [row]).length = K.length + 1 := by simp
      have hF : flat rdC (K ++ [row]) = flat rdC K ++ rdC row := by simp [flat_append, flat_cons, flat_nil]
      refine ⟨(i + 1, K ++ [row], D, (a2, c2), (ag, cg)), ⟨hi2, ?_, ?_, by dsimp only; rw [hL]; omega, by dsimp only; omega⟩, by dsimp only; omega, Sub.cons rfl (Sub.cons rfl (Sub.cons (by rw [hL]; rfl) (Sub.cons rfl (Sub.cons rfl (Sub.cons rfl (Sub.cons rfl (Sub.nil _))))))), ?_⟩
      · dsimp only; rw [List.map_append, hK, htk, List.filter_append]; simp [hst]
      · dsimp only; rw [hD, htk, List.filter_append]; simp [hst]
      · dsimp only; rw [hL, hF]; exact (Imp.pick 0 rfl (Imp.pick 2 rfl (Imp.pick 2 rfl (Imp.pick 2 rfl Imp.nil)))).ent
    · (repeat (first|refine zS ?_|refine zR ?_|refine zB ?_|refine zL ?_|refine zC ?_|refine zG (zN ?_)|refine zG (zD 0 rfl rfl rfl rfl ?_)))
      refine VO.go (VO.ldA 0 (rdC row) rfl rfl rfl rfl ?_)
      refine VO.go (VO.buildSlice (n := 1) (pv := [(0, .agg (rdC row).toArray)]) (rdC row) rfl rfl rfl rfl (by decide) (fill_one rfl rfl rfl) fun nb => ?_)
      refine VO.go (VO.append (m := 1) (news := rdC row) 3 rfl rfl rfl rfl rfl rfl rfl (RdRow.pt 0 rfl rfl rfl) rfl (small_bytes (k := 201) (by omega) (by decide)) (by omega) fun a2 c2 hc2 => ?_)
      (repeat (first|refine zS ?_|refine zR ?_|refine zB ?_|refine zL ?_|refine zC ?_|refine zG (zN ?_)|refine zG (zD 0 rfl rfl rfl rfl ?_)))
      refine VO.go (VO.add rfl rfl (by omega) (by omega) ?_)
      (repeat (first|refine zS ?_|refine zR ?_|refine zB ?_|refine zL ?_|refine zC ?_|refine zG (zN ?_)|refine zG (zD 0 rfl rfl rfl rfl ?_)))
      have hL : (D ++ [row]).length = D.length + 1 := by simp
      have hF : flat rdC (D ++ [row]) = flat rdC D ++ rdC row := by simp [flat_append, flat_cons, flat_nil]
      refine ⟨(i + 1, K, D ++ [row], (ak, ck), (a2, c2)), ⟨hi2, ?_, ?_, by dsimp only; omega, by dsimp only; rw [hL]; omega⟩, by dsimp only; omega, Sub.cons rfl (Sub.cons rfl (Sub.cons rfl (Sub.cons (by rw [hL]; rfl) (Sub.cons rfl (Sub.cons rfl (Sub.cons rfl (Sub.nil _))))))), ?_⟩
      · dsimp only; rw [hK, htk, List.filter_append]; simp [hst]
      · dsimp only; rw [List.map_append, hD, htk, List.filter_append]; simp [hst]
      · dsimp only; rw [hL, hF]; exact (Imp.pick 3 rfl (Imp.pick 0 rfl (Imp.pick 2 rfl (Imp.pick 2 rfl Imp.nil)))).ent
  · obtain rfl : i = x.rows.length := by omega
    rw [hlen, List.take_length] at hK hD
    (repeat (first|refine zS ?_|refine zR ?_|refine zB ?_|refine zL ?_|refine zC ?_|refine zG (zN ?_)|refine zG (zD 0 rfl rfl rfl rfl ?_)))
    refine VO.go (VO.st 2 (cs' := [.int .i64 R.cap, .int .i64 R.last, .slice ak K.length ck]) rfl rfl rfl rfl (Nat.le_of_ble_eq_true rfl) rfl rfl ?_)
    (repeat (first|refine zS ?_|refine zR ?_|refine zB ?_|refine zL ?_|refine zC ?_|refine zG (zN ?_)|refine zG (zD 0 rfl rfl rfl rfl ?_)))
    exact VC.ret (Ret.tmp 4 rfl rfl (Imp.rds (R := { R with l := R.l.filter st }) ⟨ak, ck, K⟩ hK (Imp.pick 2 rfl (Imp.pick 0 rfl (Imp.pick 0 rfl Imp.nil)))).ent ⟨ag, cg, D, hD, rfl, rfl⟩)
section
variable {p : Nat} {R : RdsM}
def surely (id : Int) (x : RdM) : Bool := decide (id < x.id)
def lives (now : Int) (x : RdM) : Bool := decide (now ≤ x.f.deadline)
theorem sure1_spec (Fr : Nat → Prop) (w : World) {b : Nat} {id : Int} (hb : Blk Fr w b [.int .i64 id]) (row : RdR) : Tri Tryz.prog 152 [.agg (rdC row).toArray, .pointer (some ⟨b, 0, none⟩)] Fr w [] (fun v L => v = .bool (surely id row.1) ∧ L = []) := by
  refine Tri.of 8 Tryz.func152 rfl (by kernel_rfl) tabOk rfl rfl ?_
  refine VC.seq (VC.region (VO.go (VO.boxA (vs := rdC row) rfl fun rb => ?_)))
  (repeat (first|refine zS ?_|refine zR ?_|refine zB ?_|refine zL ?_|refine zC ?_|refine zG (zN ?_)|refine zG (zD 0 rfl rfl rfl rfl ?_)|refine zG (zE rfl rfl (RdL.blk hb rfl) ?_)))
  exact VC.ret (Ret.tmp 3 rfl rfl Imp.nil.ent ⟨rfl, rfl⟩)
theorem expire1_spec (Fr : Nat → Prop) (w : World) {b : Nat} {now : Int} (hb : Blk Fr w b [.int .i64 now]) (row : RdR) : Tri Tryz.prog 159 [.agg (rdC row).toArray, .pointer (some ⟨b, 0, none⟩)] Fr w [] (fun v L => v = .bool (lives now row.1) ∧ L = []) := by
  refine Tri.of 9 Tryz.func159 rfl (by kernel_rfl) tabOk rfl rfl ?_
  refine VC.seq (VC.region (VO.go (VO.boxA (vs := rdC row) rfl fun rb => ?_)))
  (repeat (first|refine zS ?_|refine zR ?_|refine zB ?_|refine zL ?_|refine zC ?_|refine zG (zN ?_)|refine zG (zD 0 rfl rfl rfl rfl ?_)|refine zG (zE rfl rfl (RdL.blk hb rfl) ?_)))
  exact VC.ret (Ret.tmp 3 rfl rfl Imp.nil.ent ⟨rfl, rfl⟩)
theorem flush1_spec (Fr : Nat → Prop) (w : World) (row : RdR) : Tri Tryz.prog 204 [.agg (rdC row).toArray] Fr w [] (fun v L => v = .bool false ∧ L = []) := by
  refine Tri.of 3 Tryz.func204 rfl (by kernel_rfl) tabOk rfl rfl ?_
  refine VC.seq (VC.region (VO.go (VO.boxA (vs := rdC row) rfl fun rb => ?_)))
  (repeat (first|refine zS ?_|refine zR ?_|refine zB ?_|refine zL ?_|refine zC ?_|refine zG (zN ?_)|refine zG (zD 0 rfl rfl rfl rfl ?_)))
  exact VC.ret (Ret.tmp 2 rfl rfl Imp.nil.ent ⟨rfl, rfl⟩)
theorem sure_spec (Fr : Nat → Prop) (w : World) (hc : 1 ≤ R.cap) (hl : R.l.length ≤ 100) (id : Int) : Tri Tryz.prog 69 [.pointer (some ⟨p, 0, none⟩), .int .i64 id] Fr w [rdsH p R]
      (fun v L => ∃ a c rows, rows.map Prod.fst = R.l.filter (fun x => !surely id x) ∧ v = .slice a rows.length c ∧ L = [rdsH p { R with l := R.l.filter (surely id) }, slH rdT 34 a rows.length c (flat rdC rows)]) := by
  refine Tri.of 8 Tryz.func69 rfl (by kernel_rfl) tabOk rfl rfl ?_
  refine VC.seq (VC.region (VO.go (VO.opx (OpT.box (vs := [.int .i64 id]) rfl rfl) ?_)))
  rintro _ _ ⟨b, rfl, rfl⟩
  (repeat (first|refine zS ?_|refine zR ?_|refine zB ?_|refine zL ?_|refine zC ?_|refine zG (zN ?_)|refine zG (zD 0 rfl rfl rfl rfl ?_)))
  refine VO.go (VO.light (light_makeFunc (u := []) (v := [.pointer (some ⟨b, 0, none⟩)]) rfl rfl) ?_)
  refine VO.ent (L' := [rdsH p R, pt b [.int .i64 id] 3]) (Imp.pick 1 rfl (Imp.pick 0 rfl Imp.nil)).ent ?_
  refine VO.go (VO.call (Lc := [rdsH p R]) (fun Fr w hF hw hS => take_spec Fr w p R hc hl 152 [.pointer (some ⟨b, 0, none⟩)] (surely id) (fun Fr' w' hF' hk row => sure1_spec Fr' w' (blk_keep (hS.blk 0 rfl) hF' hk) row)) rfl rfl ?_)
  rintro _ _ ⟨a, c, rows, h1, rfl, rfl⟩
  (repeat (first|refine zS ?_|refine zR ?_|refine zB ?_|refine zL ?_|refine zC ?_|refine zG (zN ?_)|refine zG (zD 0 rfl rfl rfl rfl ?_)))
  exact VC.ret (Ret.tmp 4 rfl rfl (Imp.pick 0 rfl (Imp.pick 0 rfl Imp.nil)).ent ⟨a, c, rows, h1, rfl, rfl⟩)
theorem expire_spec (Fr : Nat → Prop) (w : World) (hc : 1 ≤ R.cap) (hl : R.l.length ≤ 100) (now : Int) : Tri Tryz.prog 80 [.pointer (some ⟨p, 0, none⟩), .int .i64 now] Fr w [rdsH p R]
      (fun v L => ∃ a c rows, rows.map Prod.fst = R.l.filter (fun x => !lives now x) ∧ v = .slice a rows.length c ∧ L = [rdsH p { R with l := R.l.filter (lives now) }, slH rdT 34 a rows.length c (flat rdC rows)]) := by
  refine Tri.of 8 Tryz.func80 rfl (by kernel_rfl) tabOk rfl rfl ?_
  refine VC.seq (VC.region (VO.go (VO.opx (OpT.box (vs := [.int .i64 now]) rfl rfl) ?_)))
  rintro _ _ ⟨b, rfl, rfl⟩
  (repeat (first|refine zS ?_|refine zR ?_|refine zB ?_|refine zL ?_|refine zC ?_|refine zG (zN ?_)|refine zG (zD 0 rfl rfl rfl rfl ?_)))
  refine VO.go (VO.light (light_makeFunc (u := []) (v := [.pointer (some ⟨b, 0, none⟩)]) rfl rfl) ?_)
  refine VO.ent (L' := [rdsH p R, pt b [.int .i64 now] 3]) (Imp.pick 1 rfl (Imp.pick 0 rfl Imp.nil)).ent ?_
  refine VO.go (VO.call (Lc := [rdsH p R]) (fun Fr w hF hw hS => take_spec Fr w p R hc hl 159 [.pointer (some ⟨b, 0, none⟩)] (lives now) (fun Fr' w' hF' hk row => expire1_spec Fr' w' (blk_keep (hS.blk 0 rfl) hF' hk) row)) rfl rfl ?_)
  rintro _ _ ⟨a, c, rows, h1, rfl, rfl⟩
  (repeat (first|refine zS ?_|refine zR ?_|refine zB ?_|refine zL ?_|refine zC ?_|refine zG (zN ?_)|refine zG (zD 0 rfl rfl rfl rfl ?_)))
  exact VC.ret (Ret.tmp 4 rfl rfl (Imp.pick 0 rfl (Imp.pick 0 rfl Imp.nil)).ent ⟨a, c, rows, h1, rfl, rfl⟩)
theorem flush_spec (Fr : Nat → Prop) (w : World) (hc : 1 ≤ R.cap) (hl : R.l.length ≤ 100) : Tri Tryz.prog 141 [.pointer (some ⟨p, 0, none⟩)] Fr w [rdsH p R]
      (fun v L => ∃ a c rows, rows.map Prod.fst = R.l ∧ v = .slice a rows.length c ∧ L = [rdsH p { R with l := [] }, slH rdT 34 a rows.length c (flat rdC rows)]) := by
  refine Tri.of 5 Tryz.func141 rfl (by kernel_rfl) tabOk rfl rfl ?_
  (repeat (first|refine zS ?_|refine zR ?_|refine zB ?_|refine zL ?_|refine zC ?_|refine zG (zN ?_)|refine zG (zD 0 rfl rfl rfl rfl ?_)))
  refine VO.go (VO.call (Lc := [rdsH p R]) (fun Fr w hF hw hS => take_spec Fr w p R hc hl 204 [] (fun _ => false) (fun Fr' w' hF' hk row => flush1_spec Fr' w' row)) rfl rfl ?_)
  rintro _ _ ⟨a, c, rows, h1, rfl, rfl⟩
  (repeat (first|refine zS ?_|refine zR ?_|refine zB ?_|refine zL ?_|refine zC ?_|refine zG (zN ?_)|refine zG (zD 0 rfl rfl rfl rfl ?_)))
  refine VC.ret (Ret.tmp 2 rfl rfl Ent.refl ⟨a, c, rows, ?_, rfl, ?_⟩)
  · rw [h1]; simp
  · rw [show R.l.filter (fun _ => false) = [] from List.filter_eq_nil_iff.2 (by simp)]; rfl
end
end Go.Proofs.YtbbnmgakmcppdaaGreat.Rd
