/- Layer 24: words of bytes and of numbers, put and read. No condition but what the listed variables hold. -/
import Derived.Test.YtceobomlmdmicaaDoorVgY
import Derived.Test.YtceobomlmdmicaaDoorVgZ
import Derived.Test.YtceobomlmdmicaaDoorLib4
import Derived.Test.YtceobomlmdmicaaDoorApi
namespace Go.Proofs.YtceobomlmdmicaaDoor.Scr
open Go Go.Proofs.YtceobomlmdmicaaDoor.Vg Go.Proofs.YtceobomlmdmicaaDoor.T Go.Proofs.YtceobomlmdmicaaDoor.Api Go.Proofs.YtceobomlmdmicaaDoor.LibC
set_option linter.unusedSimpArgs false
set_option linter.unusedVariables false
attribute [local irreducible] VO VC VA

def toB (l : List UInt8) : ByteArray := ⟨l.toArray⟩
theorem toB_size (a : List UInt8) : (toB a).size = a.length := by show (a.toArray).size = _; simp
theorem data_len (s : ByteArray) : s.data.toList.length = s.size := by show s.data.toList.length = s.data.size; simp
theorem toB_snoc (a : List UInt8) (c : UInt8) : toB a ++ ⟨#[c]⟩ = toB (a ++ [c]) := ByteArray.ext (by simp [toB])
theorem toB_cat (a b : List UInt8) : toB a ++ toB b = toB (a ++ b) := ByteArray.ext (by simp [toB])
theorem toB_data (s : ByteArray) : toB s.data.toList = s := ByteArray.ext (by simp [toB])
def digs : ByteArray := ⟨#[48, 49, 50, 51, 52, 53, 54, 55, 56, 57, 97, 98, 99, 100, 101, 102]⟩
def dig (n : Nat) : UInt8 := digs.data.toList.getD n 0
theorem dig_at {n : Nat} (h : n < 16) : digs.data.toList[n]? = some (dig n) := by
  have : n < digs.data.toList.length := h
  unfold dig; rw [List.getD_eq_getElem?_getD, List.getElem?_eq_getElem this]; rfl
def encB (l : List UInt8) : List UInt8 := l.flatMap fun b => [dig (b.toNat / 16), dig (b.toNat % 16)]
def encT (s : ByteArray) : ByteArray := toB (58 :: encB s.data.toList)
theorem encB_len (l : List UInt8) : (encB l).length = 2 * l.length := by
  induction l with
  | nil => rfl
  | cons x l ih => simp only [encB, List.flatMap_cons, List.length_append, List.length_cons, List.length_nil] at ih ⊢; omega
theorem encB_snoc (l : List UInt8) (b : UInt8) : encB (l ++ [b]) = encB l ++ [dig (b.toNat / 16), dig (b.toNat % 16)] := by simp [encB]
theorem encT_size (s : ByteArray) : (encT s).size = 2 * s.size + 1 := by rw [encT, toB_size, List.length_cons, encB_len, data_len]
theorem byte_at {s : ByteArray} {i : Nat} (h : i < s.size) : ∃ c, s.data.toList[i]? = some c := ⟨_, List.getElem?_eq_getElem (by rw [data_len]; exact h)⟩

set_option maxRecDepth 100000 in
theorem putText_spec (Fr : Nat → Prop) (w : World) (s : ByteArray) (hs : s.size ≤ 1000000) : Tri Tryd.prog 22 [.string s] Fr w [] (fun v L => v = .string (encT s) ∧ L = []) := by
  refine Tri.of 25 Tryd.func22 rfl (by kernel_rfl) tabOk rfl rfl ?_
  (repeat (first | refine VC.seq ?_ | refine VC.region ?_ | refine VC.block ?_ | refine VC.label ?_ | refine VC.scope ?_ | refine VO.go (VO.nil ?_) | refine VO.go (VO.ld 0 rfl rfl rfl rfl ?_)))
  refine VO.go (VO.allocB rfl fun b hB => ?_)
  refine VO.ent (L' := [txtH w.heap.size b (toB [])]) (Imp.bldF hB Imp.refl).ent ?_
  (repeat (first | refine VC.seq ?_ | refine VC.region ?_ | refine VC.block ?_ | refine VC.label ?_ | refine VC.scope ?_ | refine VO.go (VO.nil ?_) | refine VO.go (VO.ld 0 rfl rfl rfl rfl ?_)))
  refine VO.go (VO.writeB (c := 58) rfl 0 rfl nb_nil (by decide) rfl ?_)
  rw [toB_snoc]
  (repeat (first | refine VC.seq ?_ | refine VC.region ?_ | refine VC.block ?_ | refine VC.label ?_ | refine VC.scope ?_ | refine VO.go (VO.nil ?_) | refine VO.go (VO.ld 0 rfl rfl rfl rfl ?_)))
  refine VC.loop (σ := Nat) (fun i => [(0, .string s), (3, .pointer (some ⟨b, 0, none⟩)), (4, .int .i64 i)]) (fun i => [txtH w.heap.size b (toB (58 :: encB (s.data.toList.take i)))]) (fun i => i ≤ s.size) (fun i => s.size - i) 0
    (Nat.zero_le _) (Sub.cons rfl (Sub.cons rfl (Sub.cons rfl (Sub.nil _)))) Ent.refl ?_
  intro i hi
  (repeat (first | refine VC.seq ?_ | refine VC.region ?_ | refine VC.block ?_ | refine VC.label ?_ | refine VC.scope ?_ | refine VO.go (VO.nil ?_) | refine VO.go (VO.ld 0 rfl rfl rfl rfl ?_)))
  refine VC.condP rfl (fun h1 => VC.skip ?_) (fun h1 => VC.exit ?_)
  · have hi2 : i < s.size := by omega
    obtain ⟨c, hc⟩ := byte_at hi2
    have hc256 : c.toNat < 256 := c.toNat_lt
    have hsz : (toB (58 :: encB (s.data.toList.take i))).size = 2 * i + 1 := by
      rw [toB_size, List.length_cons, encB_len, List.length_take, data_len]; omega
    have hand : c.toNat &&& 15 = c.toNat % 16 := Nat.and_two_pow_sub_one_eq_mod c.toNat 4
    (repeat (first | refine VC.seq ?_ | refine VC.region ?_ | refine VC.block ?_ | refine VC.label ?_ | refine VC.scope ?_ | refine VO.go (VO.nil ?_) | refine VO.go (VO.ld 0 rfl rfl rfl rfl ?_)))
    refine VO.go (VO.light (light_strAt i rfl rfl rfl rfl rfl hc) ?_)
    refine VO.go (VO.light (light_shr8 (n := 4) rfl rfl (by decide)) ?_)
    refine VO.go (VO.light (light_strAt (s := digs) (b := dig (c.toNat / 16)) (c.toNat / 2 ^ 4) rfl rfl rfl rfl rfl (dig_at (by omega))) ?_)
    refine VO.go (VO.writeB (c := dig (c.toNat / 16)) rfl 0 rfl nb_nil (by rw [hsz]; omega) rfl ?_)
    rw [toB_snoc]
    (repeat (first | refine VC.seq ?_ | refine VC.region ?_ | refine VC.block ?_ | refine VC.label ?_ | refine VC.scope ?_ | refine VO.go (VO.nil ?_) | refine VO.go (VO.ld 0 rfl rfl rfl rfl ?_)))
    refine VO.go (VO.light (light_strAt i rfl rfl rfl rfl rfl hc) ?_)
    refine VO.go (VO.light (light_and8 (b := 15) rfl rfl hc256 (by decide)) ?_)
    refine VO.go (VO.light (light_strAt (s := digs) (b := dig (c.toNat % 16)) (c.toNat &&& 15) rfl rfl rfl rfl rfl (by rw [hand]; exact dig_at (by omega))) ?_)
    refine VO.go (VO.writeB (c := dig (c.toNat % 16)) rfl 0 rfl nb_nil (by rw [toB_size, List.length_append, List.length_cons, encB_len, List.length_take, data_len]; simp; omega) rfl ?_)
    rw [toB_snoc]
    (repeat (first | refine VC.seq ?_ | refine VC.region ?_ | refine VC.block ?_ | refine VC.label ?_ | refine VC.scope ?_ | refine VO.go (VO.nil ?_) | refine VO.go (VO.ld 0 rfl rfl rfl rfl ?_)))
    refine VO.go (VO.add rfl rfl (by omega) (by omega) ?_)
    (repeat (first | refine VC.seq ?_ | refine VC.region ?_ | refine VC.block ?_ | refine VC.label ?_ | refine VC.scope ?_ | refine VO.go (VO.nil ?_) | refine VO.go (VO.ld 0 rfl rfl rfl rfl ?_)))
    refine ⟨i + 1, hi2, by dsimp only; omega, Sub.cons rfl (Sub.cons rfl (Sub.cons rfl (Sub.nil _))), ?_⟩
    have e : 58 :: encB (s.data.toList.take i) ++ [dig (c.toNat / 16)] ++ [dig (c.toNat % 16)] = 58 :: encB (s.data.toList.take (i + 1)) := by
      rw [List.take_add_one, hc, show (some c).toList = [c] from rfl, encB_snoc]; simp
    dsimp only
    rw [e]
    exact Ent.refl
  · obtain rfl : i = s.size := by omega
    rw [List.take_of_length_le (by rw [data_len]; omega)]
    (repeat (first | refine VC.seq ?_ | refine VC.region ?_ | refine VC.block ?_ | refine VC.label ?_ | refine VC.scope ?_ | refine VO.go (VO.nil ?_) | refine VO.go (VO.ld 0 rfl rfl rfl rfl ?_)))
    refine VO.go (VO.text rfl 0 rfl nb_nil rfl ?_)
    (repeat (first | refine VC.seq ?_ | refine VC.region ?_ | refine VC.block ?_ | refine VC.label ?_ | refine VC.scope ?_ | refine VO.go (VO.nil ?_) | refine VO.go (VO.ld 0 rfl rfl rfl rfl ?_)))
    exact VC.ret (Ret.tmp 2 rfl rfl Ent.refl ⟨rfl, rfl⟩)

/-! ### A word of bytes, read -/
def val (c : UInt8) : Int := Lib.indexByte digs.data.toList c
def decB : List UInt8 → Option (List UInt8)
  | [] => some []
  | [_] => none
  | h :: l :: r => if val h < 0 ∨ val l < 0 then none else (decB r).map ((UInt8.ofNat (16 * (val h).toNat + (val l).toNat)) :: ·)
def decT (s : ByteArray) : Option ByteArray := match s.data.toList with
  | 58 :: r => (decB r).map toB
  | _ => none
theorem val_table (c : UInt8) : val c = -1 ∨ 0 ≤ val c ∧ val c < 16 := by
  have h : ∀ n : Fin 256, val (UInt8.ofNat n.val) = -1 ∨ 0 ≤ val (UInt8.ofNat n.val) ∧ val (UInt8.ofNat n.val) < 16 := by decide +kernel
  have := h ⟨c.toNat, c.toNat_lt⟩
  simpa using this
theorem decB_odd : ∀ {r : List UInt8}, r.length % 2 = 1 → decB r = none
  | [], h => by simp at h
  | [_], _ => rfl
  | h :: l :: r, hr => by
    rw [decB, decB_odd (r := r) (by simp at hr; omega)]; split <;> rfl

set_option maxRecDepth 100000 in
set_option maxHeartbeats 1000000 in
theorem getText_spec (Fr : Nat → Prop) (w : World) (s : ByteArray) (hs : s.size ≤ 1000000) : Tri Tryd.prog 42 [.string s] Fr w []
    (fun v L => L = [] ∧ ((∃ t, decT s = some t ∧ v = .tuple #[.string t, .bool true]) ∨ (decT s = none ∧ v = .tuple #[.string ⟨#[]⟩, .bool false]))) := by
  refine Tri.of 45 Tryd.func42 rfl (by kernel_rfl) tabOk rfl rfl ?_
  (repeat (first | refine VC.seq ?_ | refine VC.region ?_ | refine VC.block ?_ | refine VC.label ?_ | refine VC.scope ?_ | refine VO.go (VO.nil ?_) | refine VO.go (VO.ld 0 rfl rfl rfl rfl ?_)))
  refine VO.go (VO.light (light_rem rfl rfl (by omega) (by decide)) ?_)
  by_cases hodd : ¬ (s.size : Int) % 2 = 1
  · have hn : decT s = none := by
      unfold decT
      split
      · rename_i r hr
        have hl : s.data.toList.length = r.length + 1 := by rw [hr]; rfl
        rw [data_len] at hl
        rw [decB_odd (by omega)]; rfl
      · rfl
    (repeat (first | refine VC.seq ?_ | refine VC.region ?_ | refine VC.block ?_ | refine VC.label ?_ | refine VC.scope ?_ | refine VO.go (VO.nil ?_) | refine VO.go (VO.ld 0 rfl rfl rfl rfl ?_)))
    refine VO.go (VO.yes 12 true rfl (by simpa [bne] using hodd) ?_)
    (repeat (first | refine VC.seq ?_ | refine VC.region ?_ | refine VC.block ?_ | refine VC.label ?_ | refine VC.scope ?_ | refine VO.go (VO.nil ?_) | refine VO.go (VO.ld 0 rfl rfl rfl rfl ?_) | refine VO.go (VO.offU rfl rfl rfl ?_)))
    refine VC.condT rfl ?_
    (repeat (first | refine VC.seq ?_ | refine VC.region ?_ | refine VC.block ?_ | refine VC.label ?_ | refine VC.scope ?_ | refine VO.go (VO.nil ?_) | refine VO.go (VO.ld 0 rfl rfl rfl rfl ?_)))
    exact VC.ret (Ret.tmp2 2 3 rfl rfl rfl Ent.refl ⟨rfl, .inr ⟨hn, rfl⟩⟩)
  have hodd : (s.size : Int) % 2 = 1 := Decidable.not_not.1 hodd
  obtain ⟨c0, hc0⟩ := byte_at (s := s) (i := 0) (by omega)
  (repeat (first | refine VC.seq ?_ | refine VC.region ?_ | refine VC.block ?_ | refine VC.label ?_ | refine VC.scope ?_ | refine VO.go (VO.nil ?_) | refine VO.go (VO.ld 0 rfl rfl rfl rfl ?_)))
  refine VO.go (VO.yes 12 false rfl (by simpa [bne] using hodd) ?_)
  (repeat (first | refine VC.seq ?_ | refine VC.region ?_ | refine VC.block ?_ | refine VC.label ?_ | refine VC.scope ?_ | refine VO.go (VO.nil ?_) | refine VO.go (VO.ld 0 rfl rfl rfl rfl ?_) | refine VO.go (VO.offU rfl rfl rfl ?_)))
  refine VO.go (VO.light (light_strAt 0 rfl rfl rfl rfl rfl hc0) ?_)
  (repeat (first | refine VC.seq ?_ | refine VC.region ?_ | refine VC.block ?_ | refine VC.label ?_ | refine VC.scope ?_ | refine VO.go (VO.nil ?_) | refine VO.go (VO.ld 0 rfl rfl rfl rfl ?_) | refine VO.go (VO.offU rfl rfl rfl ?_)))
  have hr : ∃ r, s.data.toList = c0 :: r := by
    cases hl : s.data.toList with
    | nil => rw [hl] at hc0; cases hc0
    | cons x r => rw [hl] at hc0; exact ⟨r, by rw [show x = c0 from by simpa using hc0]⟩
  obtain ⟨r, hr⟩ := hr
  have hrl : r.length + 1 = s.size := by rw [← data_len, hr]; rfl
  refine VC.condNE rfl (fun h1 => ?_) (fun h1 => VC.skip ?_)
  · have hn : decT s = none := by
      unfold decT; rw [hr]
      split
      · rename_i r' he
        cases he
        exact (h1 rfl).elim
      · rfl
    (repeat (first | refine VC.seq ?_ | refine VC.region ?_ | refine VC.block ?_ | refine VC.label ?_ | refine VC.scope ?_ | refine VO.go (VO.nil ?_) | refine VO.go (VO.ld 0 rfl rfl rfl rfl ?_)))
    exact VC.ret (Ret.tmp2 2 3 rfl rfl rfl Ent.refl ⟨rfl, .inr ⟨hn, rfl⟩⟩)
  obtain rfl : c0 = 58 := UInt8.toNat_inj.1 (show c0.toNat = 58 by omega)
  have hdec : decT s = (decB r).map toB := by unfold decT; rw [hr]; rfl
  (repeat (first | refine VC.seq ?_ | refine VC.region ?_ | refine VC.block ?_ | refine VC.label ?_ | refine VC.scope ?_ | refine VO.go (VO.nil ?_) | refine VO.go (VO.ld 0 rfl rfl rfl rfl ?_)))
  refine VO.go (VO.allocB rfl fun b hB => ?_)
  refine VO.ent (L' := [txtH w.heap.size b (toB [])]) (Imp.bldF hB Imp.refl).ent ?_
  (repeat (first | refine VC.seq ?_ | refine VC.region ?_ | refine VC.block ?_ | refine VC.label ?_ | refine VC.scope ?_ | refine VO.go (VO.nil ?_) | refine VO.go (VO.ld 0 rfl rfl rfl rfl ?_)))
  refine VC.loop (σ := Nat × List UInt8) (fun x => [(0, .string s), (4, .pointer (some ⟨b, 0, none⟩)), (5, .int .i64 ((2 * x.1 + 1 : Nat) : Int))]) (fun x => [txtH w.heap.size b (toB x.2)]) (fun x => 2 * x.1 + 1 ≤ s.size ∧ x.2.length = x.1 ∧ decB r = (decB (r.drop (2 * x.1))).map (x.2 ++ ·)) (fun x => s.size - x.1) (0, [])
    ⟨by dsimp only; omega, rfl, by simp⟩ (Sub.cons rfl (Sub.cons rfl (Sub.cons rfl (Sub.nil _)))) Ent.refl ?_
  rintro ⟨k, acc⟩ ⟨hk, hacc, hJ⟩
  dsimp only at hk hacc hJ ⊢
  (repeat (first | refine VC.seq ?_ | refine VC.region ?_ | refine VC.block ?_ | refine VC.label ?_ | refine VC.scope ?_ | refine VO.go (VO.nil ?_) | refine VO.go (VO.ld 0 rfl rfl rfl rfl ?_)))
  refine VC.condP rfl (fun h2 => VC.skip ?_) (fun h2 => VC.exit ?_)
  · have hk2 : 2 * k + 2 < s.size := by omega
    obtain ⟨c1, hc1⟩ := byte_at (s := s) (i := 2 * k + 1) (by omega)
    obtain ⟨c2, hc2⟩ := byte_at (s := s) (i := 2 * k + 2) (by omega)
    have hd : r.drop (2 * k) = c1 :: c2 :: r.drop (2 * (k + 1)) := by
      have g1 : r[2 * k]? = some c1 := by rw [hr] at hc1; simpa using hc1
      have g2 : r[2 * k + 1]? = some c2 := by rw [hr] at hc2; simpa using hc2
      obtain ⟨l1, e1⟩ := List.getElem?_eq_some_iff.1 g1
      obtain ⟨l2, e2⟩ := List.getElem?_eq_some_iff.1 g2
      rw [List.drop_eq_getElem_cons l1, e1, List.drop_eq_getElem_cons l2, e2]
      rfl
    rw [hd, decB] at hJ
    have hv1 := val_table c1
    have hv2 := val_table c2
    refine VC.seq (VC.block (VC.seq (VC.draw (ts 0 3 (ts 4 4 (.only 3 (.only 8 (ts 9 2 .nil))))) (by kernel_rfl) (by decide +kernel) ?_)))
    (repeat (first | refine VA.go (VA.nil ?_) | refine VA.go (VA.ld 0 rfl rfl rfl rfl rfl ?_) | refine VA.go (VA.offU rfl rfl rfl rfl ?_)))
    refine VA.go (VA.light rfl (light_strAt (2 * k + 1) rfl rfl rfl rfl rfl hc1) ?_)
    (repeat (first | refine VA.go (VA.nil ?_) | refine VA.go (VA.ld 0 rfl rfl rfl rfl rfl ?_) | refine VA.go (VA.offU rfl rfl rfl rfl ?_)))
    refine VA.go (VA.add rfl rfl rfl (by omega) (by omega) ?_)
    (repeat (first | refine VA.go (VA.nil ?_) | refine VA.go (VA.ld 0 rfl rfl rfl rfl rfl ?_) | refine VA.go (VA.offU rfl rfl rfl rfl ?_)))
    refine VA.go (VA.light rfl (light_strAt (2 * k + 2) rfl rfl rfl rfl (by omega) hc2) ?_)
    refine VA.go (VA.callR (fun Fr w hF hs _ => indexByte_spec Fr w digs c1.toNat) rfl rfl (by (try refine Pd.st ?_); (repeat (first | exact Pd.nil | exact Pd.fnil | refine Pd.inner ?_ | refine Pd.skip (by decide +kernel) ?_ | refine Pd.fcons (RdL.one 0 rfl rfl) ?_ | refine Pd.fcons (RdL.many 0 rfl rfl) ?_ | refine Pd.cons (RdL.one 0 rfl rfl) ?_ | refine Pd.cons (RdL.many 0 rfl rfl) ?_ | refine Pd.fconsM (MpL.one 0 rfl) ?_ | refine Pd.consM (MpL.one 0 rfl) ?_))) ?_)
    refine VA.go (VA.callR (fun Fr w hF hs _ => indexByte_spec Fr w digs c2.toNat) rfl rfl (by (try refine Pd.st ?_); (repeat (first | exact Pd.nil | exact Pd.fnil | refine Pd.inner ?_ | refine Pd.skip (by decide +kernel) ?_ | refine Pd.fcons (RdL.one 0 rfl rfl) ?_ | refine Pd.fcons (RdL.many 0 rfl rfl) ?_ | refine Pd.cons (RdL.one 0 rfl rfl) ?_ | refine Pd.cons (RdL.many 0 rfl rfl) ?_ | refine Pd.fconsM (MpL.one 0 rfl) ?_ | refine Pd.consM (MpL.one 0 rfl) ?_))) ?_)
    rw [show Lib.indexByte digs.data.toList (c1.toNat : Int).toNat.toUInt8 = val c1 by simp [val], show Lib.indexByte digs.data.toList (c2.toNat : Int).toNat.toUInt8 = val c2 by simp [val]]
    (repeat (first | refine VA.go (VA.nil ?_) | refine VA.go (VA.ld 0 rfl rfl rfl rfl rfl ?_) | refine VA.go (VA.offU rfl rfl rfl rfl ?_)))
    refine VC.seq (VC.seq ?_)
    refine VC.meetS (σ := Bool) (fun t => [(0, .string s), (4, .pointer (some ⟨b, 0, none⟩)), (5, .int .i64 ((2 * k + 1 : Nat) : Int)), (6, .int .i64 (val c1)), (7, .int .i64 (val c2)), (37, .bool t)]) (fun _ => [txtH w.heap.size b (toB acc)]) (fun t => t = decide (val c1 < 0 ∨ val c2 < 0)) ?_ ?_
    · refine VC.region ?_
      (repeat (first | refine VC.seq ?_ | refine VC.region ?_ | refine VC.block ?_ | refine VC.label ?_ | refine VC.scope ?_ | refine VO.go (VO.nil ?_) | refine VO.go (VO.ld 0 rfl rfl rfl rfl ?_)))
      refine VO.go (VO.split 34 rfl rfl (fun h3 => ?_) (fun h3 => ?_))
      · have h3 := of_decide_eq_true h3
        (repeat (first | refine VC.seq ?_ | refine VC.region ?_ | refine VC.block ?_ | refine VC.label ?_ | refine VC.scope ?_ | refine VO.go (VO.nil ?_) | refine VO.go (VO.ld 0 rfl rfl rfl rfl ?_) | refine VO.go (VO.offU rfl rfl rfl ?_)))
        exact ⟨true, by simp [h3], Sub.cons rfl (Sub.cons rfl (Sub.cons rfl (Sub.cons rfl (Sub.cons rfl (Sub.cons rfl (Sub.nil _)))))), Ent.refl⟩
      · have h3 := of_decide_eq_false h3
        (repeat (first | refine VC.seq ?_ | refine VC.region ?_ | refine VC.block ?_ | refine VC.label ?_ | refine VC.scope ?_ | refine VO.go (VO.nil ?_) | refine VO.go (VO.ld 0 rfl rfl rfl rfl ?_) | refine VO.go (VO.offU rfl rfl rfl ?_)))
        exact ⟨_, by simp [h3], Sub.cons rfl (Sub.cons rfl (Sub.cons rfl (Sub.cons rfl (Sub.cons rfl (Sub.cons rfl (Sub.nil _)))))), Ent.refl⟩
    intro t ht
    refine VC.cond rfl (fun h3 => ?_) (fun h3 => VC.skip ?_)
    · have h4 : val c1 < 0 ∨ val c2 < 0 := by rw [ht] at h3; exact of_decide_eq_true h3
      rw [if_pos h4] at hJ
      (repeat (first | refine VC.seq ?_ | refine VC.region ?_ | refine VC.block ?_ | refine VC.label ?_ | refine VC.scope ?_ | refine VO.go (VO.nil ?_) | refine VO.go (VO.ld 0 rfl rfl rfl rfl ?_)))
      exact VC.ret (Ret.tmp2 2 3 rfl rfl rfl Imp.nil.ent ⟨rfl, .inr ⟨by rw [hdec, hJ]; rfl, rfl⟩⟩)
    have h4 : ¬ (val c1 < 0 ∨ val c2 < 0) := by rw [ht] at h3; exact of_decide_eq_false h3
    rw [if_neg h4] at hJ
    obtain ⟨n1, hn1⟩ : ∃ n : Nat, val c1 = n := ⟨(val c1).toNat, by omega⟩
    obtain ⟨n2, hn2⟩ : ∃ n : Nat, val c2 = n := ⟨(val c2).toNat, by omega⟩
    rw [hn1, hn2] at hJ ⊢
    have hor : n1 * 2 ^ 4 ||| n2 = 16 * n1 + n2 := by
      have := Nat.two_pow_add_eq_or_of_lt (i := 4) (b := n2) (by omega) n1
      rw [Nat.mul_comm n1, ← this]
    (repeat (first | refine VC.seq ?_ | refine VC.region ?_ | refine VC.block ?_ | refine VC.label ?_ | refine VC.scope ?_ | refine VO.go (VO.nil ?_) | refine VO.go (VO.ld 0 rfl rfl rfl rfl ?_)))
    refine VO.go (VO.light (light_shlN (a := n1) (n := 4) rfl rfl (by decide) (by omega)) ?_)
    (repeat (first | refine VC.seq ?_ | refine VC.region ?_ | refine VC.block ?_ | refine VC.label ?_ | refine VC.scope ?_ | refine VO.go (VO.nil ?_) | refine VO.go (VO.ld 0 rfl rfl rfl rfl ?_)))
    refine VO.go (VO.light (light_or (a := n1 * 2 ^ 4) (b := n2) rfl rfl (by omega) (by omega)) ?_)
    refine VO.go (VO.light (light_conv (((UInt8.ofNat (16 * n1 + n2)).toNat : Nat) : Int) rfl rfl rfl rfl rfl (by rw [hor, IntKind.wrap_u8']; simp)) ?_)
    refine VO.go (VO.writeB (c := UInt8.ofNat (16 * n1 + n2)) rfl 0 rfl nb_nil (by rw [toB_size]; omega) rfl ?_)
    rw [toB_snoc]
    (repeat (first | refine VC.seq ?_ | refine VC.region ?_ | refine VC.block ?_ | refine VC.label ?_ | refine VC.scope ?_ | refine VO.go (VO.nil ?_) | refine VO.go (VO.ld 0 rfl rfl rfl rfl ?_)))
    refine VO.go (VO.add rfl rfl (by omega) (by omega) ?_)
    (repeat (first | refine VC.seq ?_ | refine VC.region ?_ | refine VC.block ?_ | refine VC.label ?_ | refine VC.scope ?_ | refine VO.go (VO.nil ?_) | refine VO.go (VO.ld 0 rfl rfl rfl rfl ?_)))
    refine ⟨(k + 1, acc ++ [UInt8.ofNat (16 * n1 + n2)]), ⟨by dsimp only; omega, by simp [hacc], ?_⟩, by dsimp only; omega, Sub.cons rfl (Sub.cons rfl (Sub.int rfl (by dsimp only; omega) (Sub.nil _))), Ent.refl⟩
    dsimp only
    rw [hJ]
    cases decB (r.drop (2 * (k + 1))) with
    | none => rfl
    | some z => simp
  · have hk2 : 2 * k = r.length := by omega
    rw [hk2, List.drop_length] at hJ
    (repeat (first | refine VC.seq ?_ | refine VC.region ?_ | refine VC.block ?_ | refine VC.label ?_ | refine VC.scope ?_ | refine VO.go (VO.nil ?_) | refine VO.go (VO.ld 0 rfl rfl rfl rfl ?_)))
    refine VO.go (VO.text rfl 0 rfl nb_nil rfl ?_)
    (repeat (first | refine VC.seq ?_ | refine VC.region ?_ | refine VC.block ?_ | refine VC.label ?_ | refine VC.scope ?_ | refine VO.go (VO.nil ?_) | refine VO.go (VO.ld 0 rfl rfl rfl rfl ?_)))
    exact VC.ret (Ret.tmp2 2 3 rfl rfl rfl Ent.refl ⟨rfl, .inl ⟨toB acc, by rw [hdec, hJ]; simp [decB], rfl⟩⟩)
end Go.Proofs.YtceobomlmdmicaaDoor.Scr
