/- Admission: how it lies in memory, and what its small functions do. No condition. -/
import Derived.Test.YtbbnmgakmcppdaaGreatSchedE
import Derived.Test.YtbbnmgakmcppdaaGreatSchedP
import Derived.Test.YtbbnmgakmcppdaaGreatVgO
import Derived.Test.YtbbnmgakmcppdaaGreatConf2
namespace Go.Proofs.YtbbnmgakmcppdaaGreat.Adm
open Go Go.Proofs.YtbbnmgakmcppdaaGreat.Vg Go.Proofs.YtbbnmgakmcppdaaGreat.T Go.Proofs.YtbbnmgakmcppdaaGreat.Api Go.Proofs.YtbbnmgakmcppdaaGreat.Sched Go.Proofs.YtbbnmgakmcppdaaGreat.Conf
set_option linter.unusedSimpArgs false
set_option linter.unusedVariables false
attribute [local irreducible] VO VC VA

/-! ### What it is, without memory -/
abbrev MkM := Int × Int
def aheadM (t u : MkM) : Bool := decide (t.1 < u.1) || ((t.1 == u.1) && decide (t.2 < u.2))
def numM (n : Int) : Bool := decide (1 ≤ n) && decide (n ≤ 1099511627776)
structure AdmM where
  sch : SchM
  clients : Int
  marks : List MkM
  waits : List Int
def AdmM.has (A : AdmM) (k : Int) : Bool := decide (0 ≤ k ∧ k < A.clients)
def AdmM.mark (A : AdmM) (k : Int) : MkM := (A.marks[k.toNat]?).getD (0, 0)
def AdmM.wt (A : AdmM) (k : Int) : Int := (A.waits[k.toNat]?).getD 0
def AdmM.barred (A : AdmM) (k s t : Int) : Bool := A.has k && !aheadM (A.mark k) (s, t)
def AdmM.setMark (A : AdmM) (k : Int) (m : MkM) : AdmM := { A with marks := A.marks.set k.toNat m }
def AdmM.setWt (A : AdmM) (k : Int) (n : Int) : AdmM := { A with waits := A.waits.set k.toNat n }
def AdmM.barF (A : AdmM) (k s t : Int) : AdmM := if aheadM (A.mark k) (s, t) then A.setMark k (s, t) else A
def AdmM.barM (A : AdmM) (k s t : Int) : Int × AdmM := if A.has k && numM s && numM t then (0, A.barF k s t) else (2, A)
structure AdmM.Wf (A : AdmM) : Prop where
  sch : A.sch.Wf
  c0 : 1 ≤ A.clients
  c1 : A.clients ≤ 6
  marks : A.marks.length = 6
  waits : A.waits.length = 6

/-! ### How it lies in memory -/
def markCs (m : MkM) : List Value := [.int .i64 m.1, .int .i64 m.2]
theorem markCs_len (m : MkM) : (markCs m).length = 2 := rfl
def admCs (A : AdmM) (sp : Nat) : List Value := .pointer (some ⟨sp, 0, none⟩) :: .int .i64 A.clients :: .int .i64 A.sch.cls.length :: (flat markCs A.marks ++ intCs A.waits)
def admL (p : Nat) (A : AdmM) (sp : Nat) : List HP := [pt p (admCs A sp) 184, schH sp A.sch]
def admH (p : Nat) (A : AdmM) : HP := hex fun sp => hsep (hpure A.Wf :: admL p A sp)
theorem HOpn.adm (p : Nat) (A : AdmM) : HOpn (admH p A) (fun _ => A.Wf) (fun sp => admL p A sp) := by
  rintro w ids ⟨s, h⟩ hn
  obtain ⟨F, G, rfl, ⟨rfl, h1⟩, h2⟩ := h
  exact ⟨s, h1, G, h2, by simpa using hn, fun b hb => by simpa using hb⟩
theorem adm_shut {p : Nat} {A : AdmM} {L : List HP} (sp : Nat) (hs : A.Wf) (h : Imp L (admL p A sp)) : Imp L [admH p A] :=
  Imp.ex sp (Imp.sep (Imp.trans h (Imp.of_eq (List.append_nil _).symm |>.trans (Imp.pure hs Imp.refl))))
structure AdmIn (Fr : Nat → Prop) (w : World) (p : Nat) (A : AdmM) (sp : Nat) : Prop where
  wf : A.Wf
  at0 : Blk Fr w p (admCs A sp)
  sch : SatIn Fr [schH sp A.sch] w
theorem AdmIn.of {Fr : Nat → Prop} {w : World} {p : Nat} {A : AdmM} (h : SatIn Fr [admH p A] w) : ∃ sp, AdmIn Fr w p A sp := by
  obtain ⟨s, h⟩ := h.ex
  have h := h.sep
  exact ⟨s, h.pure 0 rfl, h.blk 1 rfl, h.at_ 2 rfl⟩

theorem mark_row {A : AdmM} (h : A.Wf) {sp k : Nat} (hk : k < 6) : ((admCs A sp).drop (0 + 3 + k * 2)).take 2 = markCs (A.mark k) := by
  have hk2 : k < A.marks.length := by rw [h.marks]; exact hk
  have h1 : A.marks[k]? = some (A.mark k) := by rw [AdmM.mark, Int.toNat_natCast, List.getElem?_eq_getElem hk2]; rfl
  have := flat_row markCs_len h1 (intCs A.waits)
  rw [← this, show 0 + 3 + k * 2 = k * 2 + 1 + 1 + 1 from by omega]
  rfl
theorem mark_set {A : AdmM} (h : A.Wf) {sp k : Nat} (hk : k < 6) (m : MkM) : wrC (admCs A sp) (0 + 3 + k * 2) (markCs m) = admCs (A.setMark k m) sp := by
  have hk2 : k < A.marks.length := by rw [h.marks]; exact hk
  have := flat_set markCs_len m (intCs A.waits) hk2
  show wrC (_ :: _ :: _ :: (flat markCs A.marks ++ intCs A.waits)) (0 + 3 + k * 2) (markCs m) = _ :: _ :: _ :: (flat markCs (A.marks.set ((k : Int).toNat) m) ++ intCs A.waits)
  rw [Int.toNat_natCast, ← this, show 0 + 3 + k * 2 = k * 2 + 1 + 1 + 1 from by omega]
  simp only [wrC, List.take_succ_cons, List.cons_append, markCs_len]
  rw [show k * 2 + 1 + 1 + 1 + 2 = k * 2 + 2 + 1 + 1 + 1 from by omega]
  simp only [List.drop_succ_cons]
  rfl
theorem admCs_len {A : AdmM} (h : A.Wf) (sp : Nat) : (admCs A sp).length = 21 := by
  simp [admCs, flat_len markCs_len, h.marks, intCs_len, h.waits]
theorem wt_cell {A : AdmM} (h : A.Wf) {sp k : Nat} (hk : k < 6) : (admCs A sp)[0 + 15 + k * 1]? = some (.int .i64 (A.wt k)) := by
  have hk2 : k < A.waits.length := by rw [h.waits]; exact hk
  have h1 : A.waits[k]? = some (A.wt k) := by rw [AdmM.wt, Int.toNat_natCast, List.getElem?_eq_getElem hk2]; rfl
  rw [show 0 + 15 + k * 1 = (12 + k) + 1 + 1 + 1 from by omega]
  simp only [admCs, List.getElem?_cons_succ]
  rw [List.getElem?_append_right (by rw [flat_len markCs_len, h.marks]; omega), flat_len markCs_len, h.marks, show 12 + k - 6 * 2 = k from by omega, intCs, List.getElem?_map, h1]; rfl
theorem wt_set {A : AdmM} (h : A.Wf) {sp k : Nat} (hk : k < 6) (n : Int) : (admCs A sp).set (0 + 15 + k * 1) (.int .i64 n) = admCs (A.setWt k n) sp := by
  rw [show 0 + 15 + k * 1 = (12 + k) + 1 + 1 + 1 from by omega]
  simp only [admCs, List.set_cons_succ, AdmM.setWt, Int.toNat_natCast]
  rw [List.set_append_right _ _ (by rw [flat_len markCs_len, h.marks]; omega), flat_len markCs_len, h.marks, show 12 + k - 6 * 2 = k from by omega]
  simp [intCs, List.map_set]
theorem AdmM.Wf.setMark {A : AdmM} (h : A.Wf) (k : Int) (m : MkM) : (A.setMark k m).Wf := ⟨h.sch, h.c0, h.c1, by simpa [AdmM.setMark] using h.marks, h.waits⟩
theorem AdmM.Wf.setWt {A : AdmM} (h : A.Wf) (k : Int) (n : Int) : (A.setWt k n).Wf := ⟨h.sch, h.c0, h.c1, h.marks, by simpa [AdmM.setWt] using h.waits⟩
theorem AdmM.Wf.barF {A : AdmM} (h : A.Wf) (k s t : Int) : (A.barF k s t).Wf := by
  unfold AdmM.barF; split
  · exact h.setMark k _
  · exact h
theorem AdmM.Wf.barM {A : AdmM} (h : A.Wf) (k s t : Int) : (A.barM k s t).2.Wf := by
  unfold AdmM.barM; split
  · exact h.barF k s t
  · exact h

/-! ### Small functions -/
theorem none_spec (Fr : Nat → Prop) (w : World) {p : Nat} {a : Addr} {cs : List Value} (h : Blk Fr w p (.pointer (some a) :: cs)) : Tri Tryz.prog 185 [.pointer (some ⟨p, 0, none⟩)] Fr w [] (fun v L => v = .bool false ∧ L = []) := by
  refine Tri.of 12 Tryz.func185 rfl (by kernel_rfl) tabOk rfl rfl ?_
  (repeat (first|refine zS ?_|refine zR ?_|refine zB ?_|refine zL ?_|refine zC ?_|refine zG (zN ?_)|refine zG (zD 0 rfl rfl rfl rfl ?_)))
  refine VO.go (VO.split 5 rfl rfl (fun h => by cases h) (fun _ => ?_))
  (repeat (first|refine zS ?_|refine zR ?_|refine zB ?_|refine zL ?_|refine zC ?_|refine zG (zN ?_)|refine zG (zE rfl rfl (RdL.blk h rfl) ?_)))
  exact VC.ret (Ret.bool 2 rfl rfl rfl Ent.refl ⟨rfl, rfl⟩)

theorem has_spec (Fr : Nat → Prop) (w : World) {p sp : Nat} {A : AdmM} (k : Int) (h : Blk Fr w p (admCs A sp)) : Tri Tryz.prog 200 [.pointer (some ⟨p, 0, none⟩), .int .i64 k] Fr w [] (fun v L => v = .bool (A.has k) ∧ L = []) := by
  refine Tri.of 20 Tryz.func200 rfl (by kernel_rfl) tabOk rfl rfl ?_
  (repeat (first|refine zS ?_|refine zR ?_|refine zB ?_|refine zL ?_|refine zC ?_|refine zG (zN ?_)|refine zG (zD 0 rfl rfl rfl rfl ?_)))
  refine VO.go (VO.callV' (fun Fr w hF hs _ => none_spec Fr w (h.of hF hs)) rfl ?_)
  refine VO.go (VO.yes 8 true rfl rfl ?_)
  refine VO.go (VO.split 12 rfl rfl (fun h2 => ?_) (fun h2 => ?_))
  · have h2 := of_decide_eq_true h2
    (repeat (first|refine zS ?_|refine zR ?_|refine zB ?_|refine zL ?_|refine zC ?_|refine zG (zN ?_)|refine zG (zE rfl rfl (RdL.blk h rfl) ?_)))
    exact VC.ret (Ret.bool 4 rfl rfl (by simp [AdmM.has, h2]) Ent.refl ⟨rfl, rfl⟩)
  · have h2 := of_decide_eq_false h2
    (repeat (first|refine zS ?_|refine zR ?_|refine zB ?_|refine zL ?_|refine zC ?_|refine zG (zN ?_)|refine zG (zD 0 rfl rfl rfl rfl ?_)))
    exact VC.ret (Ret.bool 4 rfl rfl (by simp [AdmM.has, h2]) Ent.refl ⟨rfl, rfl⟩)

theorem number_spec (Fr : Nat → Prop) (w : World) (n : Int) : Tri Tryz.prog 201 [.int .i64 n] Fr w [] (fun v L => v = .bool (numM n) ∧ L = []) := by
  refine Tri.of 9 Tryz.func201 rfl (by kernel_rfl) tabOk rfl rfl ?_
  (repeat (first|refine zS ?_|refine zR ?_|refine zB ?_|refine zL ?_|refine zC ?_|refine zG (zN ?_)|refine zG (zD 0 rfl rfl rfl rfl ?_)))
  refine VO.go (VO.split 5 rfl rfl (fun h2 => ?_) (fun h2 => ?_))
  · have h2 := of_decide_eq_true h2
    (repeat (first|refine zS ?_|refine zR ?_|refine zB ?_|refine zL ?_|refine zC ?_|refine zG (zN ?_)|refine zG (zD 0 rfl rfl rfl rfl ?_)))
    exact VC.ret (Ret.bool 2 rfl rfl (by simp [numM, h2]) Ent.refl ⟨rfl, rfl⟩)
  · have h2 := of_decide_eq_false h2
    (repeat (first|refine zS ?_|refine zR ?_|refine zB ?_|refine zL ?_|refine zC ?_|refine zG (zN ?_)|refine zG (zD 0 rfl rfl rfl rfl ?_)))
    exact VC.ret (Ret.bool 2 rfl rfl (by simp [numM, h2]) Ent.refl ⟨rfl, rfl⟩)

theorem ahead_spec (Fr : Nat → Prop) (w : World) (t u : MkM) : Tri Tryz.prog 202 [.agg (markCs t).toArray, .agg (markCs u).toArray] Fr w [] (fun v L => v = .bool (aheadM t u) ∧ L = []) := by
  refine Tri.of 24 Tryz.func202 rfl (by kernel_rfl) tabOk rfl rfl ?_
  refine VC.seq (VC.region (VO.go (VO.boxA (vs := markCs t) rfl fun b1 => VO.go (VO.boxA (vs := markCs u) rfl fun b2 => VO.go (VO.nil ?_)))))
  (repeat (first|refine zS ?_|refine zR ?_|refine zB ?_|refine zL ?_|refine zC ?_|refine zG (zN ?_)|refine zG (zD 0 rfl rfl rfl rfl ?_)|refine zG (zD 1 rfl rfl rfl rfl ?_)))
  refine VO.go (VO.split 10 rfl rfl (fun h1 => ?_) (fun h1 => ?_))
  · refine VO.go (VO.offU rfl rfl rfl (VO.go (VO.offU rfl rfl rfl (VO.go (VO.offU rfl rfl rfl (VO.go (VO.offU rfl rfl rfl (VO.go (VO.offU rfl rfl rfl ?_)))))))))
    (repeat (first|refine zS ?_|refine zR ?_|refine zB ?_|refine zL ?_|refine zC ?_|refine zG (zN ?_)|refine zG (zD 0 rfl rfl rfl rfl ?_)))
    exact VC.ret (Ret.bool 4 rfl rfl (by simp only [aheadM, h1]; rfl) Imp.nil.ent ⟨rfl, rfl⟩)
  · (repeat (first|refine zS ?_|refine zR ?_|refine zB ?_|refine zL ?_|refine zC ?_|refine zG (zN ?_)|refine zG (zD 0 rfl rfl rfl rfl ?_)|refine zG (zD 1 rfl rfl rfl rfl ?_)))
    refine VO.go (VO.split 16 rfl rfl (fun h2 => ?_) (fun h2 => ?_))
    · (repeat (first|refine zS ?_|refine zR ?_|refine zB ?_|refine zL ?_|refine zC ?_|refine zG (zN ?_)|refine zG (zD 0 rfl rfl rfl rfl ?_)|refine zG (zD 1 rfl rfl rfl rfl ?_)))
      exact VC.ret (Ret.bool 4 rfl rfl (by simp only [aheadM, h1, h2, Bool.false_or, Bool.true_and]) Imp.nil.ent ⟨rfl, rfl⟩)
    · (repeat (first|refine zS ?_|refine zR ?_|refine zB ?_|refine zL ?_|refine zC ?_|refine zG (zN ?_)|refine zG (zD 0 rfl rfl rfl rfl ?_)|refine zG (zD 1 rfl rfl rfl rfl ?_)))
      exact VC.ret (Ret.bool 4 rfl rfl (by simp only [aheadM, h1, h2, Bool.false_or, Bool.false_and]) Imp.nil.ent ⟨rfl, rfl⟩)

theorem barred_spec (Fr : Nat → Prop) (w : World) {p : Nat} {A : AdmM} (k s t : Int) (h : SatIn Fr [admH p A] w) : Tri Tryz.prog 197 [.pointer (some ⟨p, 0, none⟩), .int .i64 k, .int .i64 s, .int .i64 t] Fr w [] (fun v L => v = .bool (A.barred k s t) ∧ L = []) := by
  obtain ⟨sp, h⟩ := AdmIn.of h
  have hb := h.at0
  refine Tri.of 25 Tryz.func197 rfl (by kernel_rfl) tabOk rfl rfl ?_
  (repeat (first|refine zS ?_|refine zR ?_|refine zB ?_|refine zL ?_|refine zC ?_|refine zG (zN ?_)|refine zG (zD 0 rfl rfl rfl rfl ?_)))
  refine VO.go (VO.callV' (fun Fr w hF hs _ => has_spec Fr w k (hb.of hF hs)) rfl ?_)
  refine VO.go (VO.split 12 rfl rfl (fun h1 => ?_) (fun h1 => ?_))
  · have hk := of_decide_eq_true h1
    obtain ⟨n, rfl⟩ := Int.eq_ofNat_of_zero_le hk.1
    have hn : n < 6 := by have := h.wf.c1; omega
    refine VO.go (VO.light (light_idxA n rfl rfl rfl rfl rfl rfl hn) ?_)
    refine VO.go (VO.load rfl rfl (v := .agg (markCs (A.mark n)).toArray) (RdL.blkA hb (mark_row h.wf hn)) ?_)
    refine VO.go (VO.light (light_build (pv := [(0, .int .i64 s), (1, .int .i64 t)]) (markCs (s, t)) rfl rfl rfl rfl rfl) ?_)
    refine VO.go (VO.callV (fun Fr w => ahead_spec Fr w (A.mark n) (s, t)) rfl ?_)
    (repeat (first|refine zS ?_|refine zR ?_|refine zB ?_|refine zL ?_|refine zC ?_|refine zG (zN ?_)|refine zG (zD 0 rfl rfl rfl rfl ?_)))
    exact VC.ret (Ret.bool 8 rfl rfl (by simp only [AdmM.barred, h1, Bool.true_and]) Ent.refl ⟨rfl, rfl⟩)
  · (repeat (first|refine zS ?_|refine zR ?_|refine zB ?_|refine zL ?_|refine zC ?_|refine zG (zN ?_)|refine zG (zD 0 rfl rfl rfl rfl ?_)))
    exact VC.ret (Ret.bool 8 rfl rfl (by simp only [AdmM.barred, h1, Bool.false_and]) Ent.refl ⟨rfl, rfl⟩)

set_option maxRecDepth 100000 in
theorem bar_spec (Fr : Nat → Prop) (w : World) (p : Nat) (A : AdmM) (k s t : Int) : Tri Tryz.prog 138 [.pointer (some ⟨p, 0, none⟩), .int .i64 k, .int .i64 s, .int .i64 t] Fr w [admH p A] (fun v L => v = .int .i64 (A.barM k s t).1 ∧ L = [admH p (A.barM k s t).2]) := by
  refine Tri.of 45 Tryz.func138 rfl (by kernel_rfl) tabOk rfl rfl ?_
  refine VC.opn 0 rfl (HOpn.adm p A) fun sp h => ?_
  refine VC.ent (L' := admL p A sp) (Imp.of_eq (List.append_nil _)).ent ?_
  have out : ∀ {X : Cx}, Ent X (admL p A sp) [admH p A] := fun {X} => (adm_shut sp h Imp.refl).ent
  (repeat (first|refine zS ?_|refine zR ?_|refine zB ?_|refine zL ?_|refine zC ?_|refine zG (zN ?_)|refine zG (zD 0 rfl rfl rfl rfl ?_)))
  refine VO.go (VO.callV' (fun Fr w hF _ hs => none_spec Fr w (hs.blk 0 rfl)) rfl (VO.go (VO.nil (VC.condF rfl ?_))))
  (repeat (first|refine zS ?_|refine zR ?_|refine zB ?_|refine zL ?_|refine zC ?_|refine zG (zN ?_)|refine zG (zD 0 rfl rfl rfl rfl ?_)))
  refine VO.go (VO.callV' (fun Fr w hF _ hs => has_spec Fr w k (hs.blk 0 rfl)) rfl (VO.go (VO.split 18 rfl rfl (fun h1 => ?_) (fun h1 => ?_))))
  · have h1 : A.has k = false := by simpa using h1
    have e : A.barM k s t = (2, A) := by simp [AdmM.barM, h1]
    refine VO.go (VO.yes 23 true rfl rfl (VO.go (VO.nil (VC.condT rfl ?_))))
    (repeat (first|refine zS ?_|refine zR ?_|refine zB ?_|refine zL ?_|refine zC ?_|refine zG (zN ?_)|refine zG (zD 0 rfl rfl rfl rfl ?_)))
    exact VC.ret (Ret.int 8 rfl rfl (by rw [e]) out ⟨rfl, by rw [e]⟩)
  have h1 : A.has k = true := by simpa using h1
  refine VO.go (VO.callV (fun Fr w => number_spec Fr w s) rfl (VO.go (VO.split 23 rfl rfl (fun h2 => ?_) (fun h2 => ?_))))
  · have h2 : numM s = false := by simpa using h2
    have e : A.barM k s t = (2, A) := by simp [AdmM.barM, h2]
    refine VO.go (VO.nil (VC.condT rfl ?_))
    (repeat (first|refine zS ?_|refine zR ?_|refine zB ?_|refine zL ?_|refine zC ?_|refine zG (zN ?_)|refine zG (zD 0 rfl rfl rfl rfl ?_)))
    exact VC.ret (Ret.int 8 rfl rfl (by rw [e]) out ⟨rfl, by rw [e]⟩)
  have h2 : numM s = true := by simpa using h2
  refine VO.go (VO.callV (fun Fr w => number_spec Fr w t) rfl (VO.go (VO.nil ?_)))
  refine VC.condN rfl (fun h3 => ?_) (fun h3 => VC.skip ?_)
  · have e : A.barM k s t = (2, A) := by simp [AdmM.barM, h3]
    (repeat (first|refine zS ?_|refine zR ?_|refine zB ?_|refine zL ?_|refine zC ?_|refine zG (zN ?_)|refine zG (zD 0 rfl rfl rfl rfl ?_)))
    exact VC.ret (Ret.int 8 rfl rfl (by rw [e]) out ⟨rfl, by rw [e]⟩)
  have e : A.barM k s t = (0, A.barF k s t) := by simp [AdmM.barM, h1, h2, h3]
  have hk := of_decide_eq_true h1
  obtain ⟨n, rfl⟩ := Int.eq_ofNat_of_zero_le hk.1
  have hn : n < 6 := by have := h.c1; omega
  have hlen := admCs_len h sp
  (repeat (first|refine zS ?_|refine zR ?_|refine zB ?_|refine zL ?_|refine zC ?_|refine zG (zN ?_)|refine zG (zD 0 rfl rfl rfl rfl ?_)))
  refine VO.go (VO.light (light_build (pv := [(0, .int .i64 s), (1, .int .i64 t)]) (markCs (s, t)) rfl rfl rfl rfl rfl) ?_)
  refine VO.go (VO.alloc rfl fun m => VO.go (VO.stA (vs := markCs (s, t)) (cs' := markCs (s, t)) 0 rfl rfl rfl rfl (Nat.le_refl _) rfl rfl rfl (VO.go (VO.nil ?_))))
  refine VC.seq (VC.seq (VC.draw (ts 0 7 (.only 7 .nil)) (by kernel_rfl) (by decide +kernel) ?_))
  refine VA.go (VA.light rfl (light_idxA n rfl rfl rfl rfl rfl rfl hn) ?_)
  refine VA.go (VA.ldA 1 (markCs (A.mark n)) rfl rfl rfl rfl (mark_row h hn) ?_)
  refine VA.go (VA.ldA 0 (markCs (s, t)) rfl rfl rfl rfl rfl ?_)
  refine VA.go (VA.callP (φ := fun v => v = .bool (aheadM (A.mark n) (s, t))) (fun Fr w _ _ _ => ahead_spec Fr w _ _) rfl rfl (by (try refine Pd.st ?_);(repeat (first|exact Pd.nil|exact Pd.fnil|refine Pd.inner ?_|refine Pd.skip (by decide +kernel) ?_|refine zf (zo 0 rfl rfl) ?_|refine zf (zo 1 rfl rfl) ?_|refine zf (zm 0 rfl rfl) ?_|refine zf (zm 1 rfl rfl) ?_|refine zf (RdL.blk (RdL.many 1 rfl (mark_row h hn)) rfl) ?_|refine zf ((RdL.many 1 rfl (mark_row h hn))) ?_|refine zc (zo 0 rfl rfl) ?_|refine zc (zo 1 rfl rfl) ?_|refine zc (zm 0 rfl rfl) ?_|refine zc (zm 1 rfl rfl) ?_|refine zc (RdL.blk (RdL.many 1 rfl (mark_row h hn)) rfl) ?_|refine zc ((RdL.many 1 rfl (mark_row h hn))) ?_))) ?_)
  rintro _ rfl
  (repeat (first|refine yG (yN ?_)|refine yG (yD 0 rfl rfl rfl rfl rfl ?_)))
  refine VC.cond rfl (fun h4 => ?_) (fun h4 => VC.skip ?_)
  · have e2 : A.barF n s t = A.setMark n (s, t) := by unfold AdmM.barF; rw [if_pos h4]
    refine VC.draw (ts 0 6 (.only 6 .nil)) (by kernel_rfl) (by decide +kernel) ?_
    refine VA.go (VA.ldA 0 (markCs (s, t)) rfl rfl rfl rfl rfl ?_)
    refine VA.go (VA.light rfl (light_idxA n rfl rfl rfl rfl rfl rfl hn) ?_)
    refine VA.go (VA.stA (vs := markCs (s, t)) (cs' := admCs (A.setMark n (s, t)) sp) 1 rfl rfl rfl rfl rfl (by rw [hlen]; show 0 + 3 + n * 2 + 2 ≤ 21; omega) (mark_set h hn (s, t)) rfl rfl (by (try refine Pd.st ?_);(repeat (first|exact Pd.nil|exact Pd.fnil|refine Pd.inner ?_|refine Pd.skip (by decide +kernel) ?_|refine zf (zo 0 rfl rfl) ?_|refine zf (zm 0 rfl rfl) ?_|refine zc (zo 0 rfl rfl) ?_|refine zc (zm 0 rfl rfl) ?_))) (VA.go (VA.nil ?_)))
    (repeat (first|refine zS ?_|refine zR ?_|refine zB ?_|refine zL ?_|refine zC ?_|refine zG (zN ?_)|refine zG (zD 0 rfl rfl rfl rfl ?_)))
    exact VC.ret (Ret.int 8 rfl rfl (by rw [e]) (L' := [admH p (A.setMark n (s, t))]) (Imp.trans Imp.tl (adm_shut sp (h.setMark n _) Imp.refl)).ent ⟨rfl, by rw [e, e2]⟩)
  · have e2 : A.barF n s t = A := by unfold AdmM.barF; rw [if_neg (by rw [h4]; simp)]
    (repeat (first|refine zS ?_|refine zR ?_|refine zB ?_|refine zL ?_|refine zC ?_|refine zG (zN ?_)|refine zG (zD 0 rfl rfl rfl rfl ?_)))
    exact VC.ret (Ret.int 8 rfl rfl (by rw [e]) (L' := [admH p A]) (Imp.trans Imp.tl (adm_shut sp h Imp.refl)).ent ⟨rfl, by rw [e, e2]⟩)

/-! ### Looking -/
theorem len_spec (Fr : Nat → Prop) (w : World) {p : Nat} {A : AdmM} (k : Int) (h : SatIn Fr [admH p A] w) : Tri Tryz.prog 123 [.pointer (some ⟨p, 0, none⟩), .int .i64 k] Fr w [] (fun v L => v = .int .i64 (A.sch.lenM k) ∧ L = []) := by
  obtain ⟨sp, h⟩ := AdmIn.of h
  have hb := h.at0
  have hsch := h.sch
  refine Tri.of 13 Tryz.func123 rfl (by kernel_rfl) tabOk rfl rfl ?_
  (repeat (first|refine zS ?_|refine zR ?_|refine zB ?_|refine zL ?_|refine zC ?_|refine zG (zN ?_)|refine zG (zD 0 rfl rfl rfl rfl ?_)))
  refine VO.go (VO.callV' (fun Fr w hF hs _ => none_spec Fr w (hb.of hF hs)) rfl (VO.go (VO.nil (VC.condF rfl (VC.skip ?_)))))
  (repeat (first|refine zS ?_|refine zR ?_|refine zB ?_|refine zL ?_|refine zC ?_|refine zG (zN ?_)|refine zG (zE rfl rfl (RdL.blk hb rfl) ?_)))
  refine VO.go (VO.callV' (fun Fr w hF hs _ => Sched.len_spec Fr w k (hsch.of hF hs)) rfl (VO.go (VO.nil ?_)))
  exact VC.ret (Ret.int 4 rfl rfl rfl Ent.refl ⟨rfl, rfl⟩)

def AdmM.waitsM (A : AdmM) (k : Int) : Int × Bool := if A.has k then (A.wt k, !(A.wt k == 0)) else (0, false)
end Go.Proofs.YtbbnmgakmcppdaaGreat.Adm
