/- The scheduler: how it is made. No condition. -/
import Derived.Test.YtbbnmgakmcppdaaGreatSched
namespace Go.Proofs.YtbbnmgakmcppdaaGreat.Sched
open Go Go.Proofs.YtbbnmgakmcppdaaGreat.Vg Go.Proofs.YtbbnmgakmcppdaaGreat.T Go.Proofs.YtbbnmgakmcppdaaGreat.Api Go.Proofs.YtbbnmgakmcppdaaGreat.Ring
set_option linter.unusedSimpArgs false
set_option linter.unusedVariables false
attribute [local irreducible] VO VC VA

/-- Integers that lie where they stay. -/
structure IntsIn (Fr : Nat → Prop) (w : World) (a : Option Addr) (qs : List Int) : Prop where
  at_ : qs ≠ [] → ∃ b off, a = some ⟨b, off, none⟩ ∧ Fr b ∧ ∀ i v, qs[i]? = some v → w.cell? ⟨b, off + i, none⟩ = some (.int .i64 v)

theorem IntsIn.blk {Fr : Nat → Prop} {w : World} {b : Nat} {cs : List Value} {qs : List Int} (h : Blk Fr w b cs) (hc : cs = qs.map fun q => .int .i64 q) : IntsIn Fr w (some ⟨b, 0, none⟩) qs := ⟨fun _ => ⟨b, 0, rfl, h.fr, fun i v hv => by
  obtain ⟨t, fz, ht⟩ := h.at_
  rw [cell_of_row w b (0 + i) cs.toArray t fz ht, hc]
  simp [hv]⟩⟩

def quantumOk (q : Int) : Bool := decide (96 ≤ q) && decide (q ≤ 65536)
def newOk (qs : List Int) (cap : Int) : Bool := decide (1 ≤ qs.length) && decide (qs.length ≤ 4) && decide (1 ≤ cap) && decide (cap ≤ 16) && qs.all quantumOk
def clsNew (q : Int) : ClsM := ⟨[], q, 0, 0⟩
def SchM.new (qs : List Int) (cap : Int) : SchM := ⟨qs.map clsNew, cap.toNat, 0, true⟩
theorem SchM.new_wf {qs : List Int} {cap : Int} (h : newOk qs cap = true) : (SchM.new qs cap).Wf := by
  simp only [newOk, Bool.and_eq_true, decide_eq_true_eq, List.all_eq_true, quantumOk] at h
  obtain ⟨⟨⟨⟨h1, h2⟩, h3⟩, h4⟩, h5⟩ := h
  refine ⟨by simpa [SchM.new] using h1, by simpa [SchM.new] using h2, by simp [SchM.new]; omega, by simp [SchM.new]; omega, by simp [SchM.new]; omega, fun c hc => ?_, fun c hc => ?_, fun k c hc _ => ?_⟩
  · obtain ⟨q, hq, rfl⟩ := List.mem_map.1 hc
    have := h5 q hq
    exact ⟨this.1, this.2, Int.le_refl _, by show (0 : Int) ≤ q + 95; omega, Int.le_refl _, by show (0 : Int) ≤ _; omega⟩
  · obtain ⟨q, hq, rfl⟩ := List.mem_map.1 hc
    simp [clsNew]
  · obtain ⟨q, hq, rfl⟩ := List.mem_map.1 (List.mem_of_getElem? hc)
    show (0 : Int) ≤ 95; omega

abbrev NewS := Nat × Option Addr × Nat × List Row
def newL (p : Nat) (cap : Nat) (x : NewS) : List HP := pt p [.slice x.2.1 x.1 x.2.2.1, .int .i64 0, .bool true] 228 :: slH 233 4 x.2.1 x.1 x.2.2.1 (flat clsCs x.2.2.2) :: x.2.2.2.map fun r => ringH r.1 r.2.q cap

def newR (qs : List Int) (cap : Int) (v : Value) (L : List HP) : Prop := if newOk qs cap = true then ∃ p, v = .tuple #[.pointer (some ⟨p, 0, none⟩), .int .i64 0] ∧ L = [schH p (SchM.new qs cap)] else v = .tuple #[.pointer none, .int .i64 2] ∧ L = []
theorem newR.bad {X : Cx} {e : Env} {L : List HP} {qs : List Int} {cap : Int} (h : newOk qs cap = false) (h4 : Vg.look e 4 = some (.pointer none)) (h5 : Vg.look e 5 = some (.int .i64 2)) : Vg.Ret X Tryz.f131 (newR qs cap) e L :=
  Ret.tmp2 4 5 rfl h4 h5 Imp.nil.ent (by unfold newR; rw [if_neg (by rw [h]; simp)]; exact ⟨rfl, rfl⟩)

structure NewI (qs : List Int) (x : NewS) : Prop where
  le : x.1 ≤ qs.length
  room : x.1 ≤ x.2.2.1
  rows : x.2.2.2.map Prod.snd = (qs.take x.1).map clsNew
  ok : (qs.take x.1).all quantumOk = true
theorem NewI.len {qs : List Int} {x : NewS} (h : NewI qs x) : x.2.2.2.length = x.1 := by
  have := congrArg List.length h.rows
  have h2 := h.le
  simp only [List.length_map, List.length_take] at this
  omega

set_option maxRecDepth 100000 in
theorem new_spec (Fr : Nat → Prop) (w : World) (a : Option Addr) (qc : Nat) (qs : List Int) (cap : Int) (hq : IntsIn Fr w a qs) :
    Tri Tryz.prog 131 [.slice a qs.length qc, .int .i64 cap] Fr w [] (newR qs cap) := by
  refine Tri.of 62 Tryz.func131 rfl (by kernel_rfl) tabOk rfl rfl ?_
  (repeat (first|refine zS ?_|refine zR ?_|refine zB ?_|refine zL ?_|refine zC ?_|refine zG (zN ?_)|refine zG (zD 0 rfl rfl rfl rfl ?_)))
  refine VO.go (VO.split 13 rfl rfl (fun h1 => ?_) (fun h1 => VO.go (VO.split 18 rfl rfl (fun h2 => ?_) (fun h2 => VO.go (VO.split 22 rfl rfl (fun h3 => ?_) (fun h3 => ?_))))))
  · have h1 := of_decide_eq_true h1
    refine VO.go (VO.yes 18 true rfl rfl (VO.go (VO.yes 22 true rfl rfl (VO.go (VO.nil (VC.condT rfl ?_))))))
    (repeat (first|refine zS ?_|refine zR ?_|refine zB ?_|refine zL ?_|refine zC ?_|refine zG (zN ?_)|refine zG (zD 0 rfl rfl rfl rfl ?_)))
    refine VC.ret (newR.bad ?_ rfl rfl)
    have : ¬ (1 ≤ qs.length) := by omega
    simp [newOk, this]
  · have h2 := of_decide_eq_true h2
    refine VO.go (VO.yes 22 true rfl rfl (VO.go (VO.nil (VC.condT rfl ?_))))
    (repeat (first|refine zS ?_|refine zR ?_|refine zB ?_|refine zL ?_|refine zC ?_|refine zG (zN ?_)|refine zG (zD 0 rfl rfl rfl rfl ?_)))
    refine VC.ret (newR.bad ?_ rfl rfl)
    have : ¬ (qs.length ≤ 4) := by omega
    simp [newOk, this]
  · have h3 := of_decide_eq_true h3
    refine VO.go (VO.nil (VC.condT rfl ?_))
    (repeat (first|refine zS ?_|refine zR ?_|refine zB ?_|refine zL ?_|refine zC ?_|refine zG (zN ?_)|refine zG (zD 0 rfl rfl rfl rfl ?_)))
    refine VC.ret (newR.bad ?_ rfl rfl)
    have : ¬ (1 ≤ cap) := by omega
    simp [newOk, this]
  have h1 := of_decide_eq_false h1
  have h2 := of_decide_eq_false h2
  have h3 := of_decide_eq_false h3
  (repeat (first|refine zS ?_|refine zR ?_|refine zB ?_|refine zL ?_|refine zC ?_|refine zG (zN ?_)|refine zG (zD 0 rfl rfl rfl rfl ?_)))
  refine VC.condP rfl (fun h4 => ?_) (fun h4 => VC.skip ?_)
  · (repeat (first|refine zS ?_|refine zR ?_|refine zB ?_|refine zL ?_|refine zC ?_|refine zG (zN ?_)|refine zG (zD 0 rfl rfl rfl rfl ?_)))
    refine VC.ret (newR.bad ?_ rfl rfl)
    have : ¬ (cap ≤ 16) := by omega
    simp [newOk, this]
  obtain ⟨cp, rfl⟩ := Int.eq_ofNat_of_zero_le (show 0 ≤ cap by omega)
  obtain ⟨b, off, ha, hF, hcell⟩ := hq.at_ (fun e => by rw [e] at h1; simp at h1)
  subst ha
  refine VC.seq (VC.region (VO.go (VO.light (light_build [.slice none 0 0, .int .i64 0, .bool true] rfl rfl rfl rfl rfl) (VO.go (VO.boxA (vs := [.slice none 0 0, .int .i64 0, .bool true]) rfl fun p => VO.go (VO.nil ?_))))))
  (repeat (first|refine zS ?_|refine zR ?_|refine zB ?_|refine zL ?_|refine zC ?_|refine zG (zN ?_)|refine zG (zD 0 rfl rfl rfl rfl ?_)))
  refine VC.loop (σ := NewS) (fun x => [(0, .slice (some ⟨b, off, none⟩) qs.length qc), (1, .int .i64 cp), (4, .pointer (some ⟨p, 0, none⟩)), (28, .slice (some ⟨b, off, none⟩) qs.length qc), (29, .int .i64 qs.length), (30, .int .i64 x.1)]) (newL p cp) (NewI qs) (fun x => 4 - x.1) (0, none, 0, []) ⟨Nat.zero_le _, Nat.le_refl _, rfl, rfl⟩ (Sub.cons rfl (Sub.cons rfl (Sub.cons rfl (Sub.cons rfl (Sub.cons rfl (Sub.cons rfl (Sub.nil _))))))) ?_ ?_
  · exact (Imp.cons (Imp.slNil Imp.refl)).ent
  rintro ⟨i, a, c, rows⟩ hI
  have hle := hI.le; have hroom := hI.room; have hlen := hI.len; have hrows := hI.rows; have hok := hI.ok
  dsimp only at hle hroom hlen hrows hok ⊢
  (repeat (first|refine zS ?_|refine zR ?_|refine zB ?_|refine zL ?_|refine zC ?_|refine zG (zN ?_)|refine zG (zD 0 rfl rfl rfl rfl ?_)))
  refine VC.condP rfl (fun h5 => ?_) (fun h5 => ?_)
  · have h5 : i < qs.length := by omega
    have hqi := List.getElem?_eq_getElem h5
    have hmem : qs[i] ∈ qs := List.getElem_mem h5
    have htake : qs.take (i + 1) = qs.take i ++ [qs[i]] := by rw [List.take_add_one, hqi]; rfl
    generalize hqv : qs[i] = q at hqi hmem htake
    have hbad : quantumOk q = false → newOk qs cp = false := fun h => by
      have : qs.all quantumOk = false := List.all_eq_false.2 ⟨q, hmem, by simp [h]⟩
      simp [newOk, this]
    refine VC.skip ?_
    (repeat (first|refine zS ?_|refine zR ?_|refine zB ?_|refine zL ?_|refine zC ?_|refine zG (zN ?_)|refine zG (zD 0 rfl rfl rfl rfl ?_)))
    refine VO.go (VO.light (light_idx i rfl rfl rfl rfl rfl rfl h5) ?_)
    refine VO.go (VO.load rfl rfl (RdL.rd (v := .int .i64 q) hF (by show w.cell? ⟨b, off + i * 1, none⟩ = _; rw [Nat.mul_one]; exact hcell i _ hqi)) (VO.go (VO.nil ?_)))
    refine VC.seq (VC.seq (VC.region (VO.go (VO.split 36 rfl rfl (fun h6 => ?_) (fun h6 => ?_)))))
    · have h6 := of_decide_eq_true h6
      refine VO.go (VO.nil (VC.condT rfl ?_))
      (repeat (first|refine zS ?_|refine zR ?_|refine zB ?_|refine zL ?_|refine zC ?_|refine zG (zN ?_)|refine zG (zD 0 rfl rfl rfl rfl ?_)))
      refine VC.ret (newR.bad (hbad ?_) rfl rfl)
      have : ¬ 96 ≤ q := by omega
      simp [quantumOk, this]
    have h6 := of_decide_eq_false h6
    refine VO.go (VO.nil (VC.condP rfl (fun h7 => ?_) (fun h7 => VC.skip ?_)))
    · (repeat (first|refine zS ?_|refine zR ?_|refine zB ?_|refine zL ?_|refine zC ?_|refine zG (zN ?_)|refine zG (zD 0 rfl rfl rfl rfl ?_)))
      refine VC.ret (newR.bad (hbad ?_) rfl rfl)
      have : ¬ q ≤ 65536 := by omega
      simp [quantumOk, this]
    (repeat (first|refine zS ?_|refine zR ?_|refine zB ?_|refine zL ?_|refine zC ?_|refine zG (zN ?_)|refine zG (zD 0 rfl rfl rfl rfl ?_)))
    refine VO.go (VO.call0 rfl (fun Fr w => Ring.new_spec Fr w cp (by omega) (by omega)) ?_)
    rintro _ _ ⟨r, rfl, rfl⟩
    (repeat (first|refine zS ?_|refine zR ?_|refine zB ?_|refine zL ?_|refine zC ?_|refine zG (zN ?_)|refine zG (zD 0 rfl rfl rfl rfl ?_)))
    refine VC.condNE rfl (fun h => absurd rfl h) (fun _ => VC.skip ?_)
    refine VC.region ?_
    refine VO.go (VO.ld 1 rfl rfl rfl rfl ?_)
    refine VO.go (VO.light (light_build (pv := [(0, .pointer (some ⟨r, 0, none⟩)), (1, .int .i64 q)]) (clsCs (r, clsNew q)) rfl rfl rfl rfl rfl) ?_)
    refine VO.go (VO.buildSlice (n := 1) (pv := [(0, .agg (clsCs (r, clsNew q)).toArray)]) (clsCs (r, clsNew q)) rfl rfl rfl rfl (by decide) (fill_one rfl rfl rfl) fun nb => ?_)
    refine VO.go (VO.append (m := 1) (news := clsCs (r, clsNew q)) 3 rfl rfl rfl rfl rfl rfl rfl (RdRow.pt 0 rfl rfl rfl) rfl (by show (i + 1) * 32 ≤ _; omega) (by omega) fun a' c' hc' => ?_)
    refine VO.go (VO.st 3 rfl rfl rfl rfl (by show 0 < 3; omega) rfl rfl (VO.go (VO.nil ?_)))
    (repeat (first|refine zS ?_|refine zR ?_|refine zB ?_|refine zL ?_|refine zC ?_|refine zG (zN ?_)|refine zG (zD 0 rfl rfl rfl rfl ?_)))
    refine VO.go (VO.add rfl rfl ?_ ?_ ?_)
    · omega
    · omega
    (repeat (first|refine zS ?_|refine zR ?_|refine zB ?_|refine zL ?_|refine zC ?_|refine zG (zN ?_)|refine zG (zD 0 rfl rfl rfl rfl ?_)))
    refine ⟨(i + 1, a', c', rows ++ [(r, clsNew q)]), ⟨h5, hc', ?_, ?_⟩, by dsimp only; omega, Sub.cons rfl (Sub.cons rfl (Sub.cons rfl (Sub.cons rfl (Sub.cons rfl (Sub.cons rfl (Sub.nil _)))))), ?_⟩
    · dsimp only; rw [List.map_append, hrows, htake, List.map_append]; rfl
    · dsimp only; rw [htake, List.all_append, hok]; simp [quantumOk]; omega
    · have e1 : Imp (ringH r [] cp :: rows.map fun r : Row => ringH r.1 r.2.q cp) ((rows ++ [(r, clsNew q)]).map fun r : Row => ringH r.1 r.2.q cp) := by
        rw [List.map_append]
        exact Imp.perm (List.perm_append_comm (l₁ := [ringH r [] cp]))
      have e2 : flat clsCs rows ++ clsCs (r, clsNew q) = flat clsCs (rows ++ [(r, clsNew q)]) := by simp [flat_append, flat_cons, flat_nil]
      rw [e2]
      refine (Imp.pick 3 rfl ?_).ent
      exact Imp.pick 0 rfl (Imp.trans Imp.tl e1)
  · have h5 : i = qs.length := by omega
    subst h5
    have hnew : newOk qs cp = true := by
      rw [List.take_length] at hok
      simp only [newOk, hok, Bool.and_true, Bool.and_eq_true, decide_eq_true_eq]
      omega
    refine VC.exit ?_
    (repeat (first|refine zS ?_|refine zR ?_|refine zB ?_|refine zL ?_|refine zC ?_|refine zG (zN ?_)|refine zG (zD 0 rfl rfl rfl rfl ?_)))
    refine VC.opn 1 rfl (HOpn.sl _ _ _ _ _ _) fun x hx => ?_
    obtain ⟨hx1, hx2, hx3⟩ := hx
    cases x with
    | none => exact absurd hx3.2.1 (by omega)
    | some y =>
      obtain ⟨cb, rest⟩ := y
      obtain ⟨rfl, hx3⟩ := hx3
      refine VC.ret (Ret.tmp2 4 5 rfl rfl rfl (L' := [schH p (SchM.new qs cp)]) ?_ (by unfold newR; rw [if_pos hnew]; exact ⟨p, rfl, rfl⟩))
      rw [List.take_length] at hrows
      refine (Imp.sch (M := []) ⟨cb, c, rest, rows⟩ ⟨SchM.new_wf hnew, hrows, by dsimp only; omega⟩ ?_).ent
      have e : schCs (SchM.new qs cp) ⟨cb, c, rest, rows⟩ = [.slice (some ⟨cb, 0, none⟩) qs.length c, .int .i64 0, .bool true] := by simp [schCs, SchM.new, hlen]
      unfold schL
      rw [e]
      refine Imp.pick 1 rfl ?_
      exact Imp.of_eq (by simp [newL, SchM.new])
end Go.Proofs.YtbbnmgakmcppdaaGreat.Sched
