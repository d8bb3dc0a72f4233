/- Stores of keys with values: made, read, written, copied. No condition. -/
import Derived.Test.YtbbnmgakmcppdaaGreatVgV
import Derived.Test.YtbbnmgakmcppdaaGreatApi
import Derived.Test.YtbbnmgakmcppdaaGreatTab
namespace Go.Proofs.YtbbnmgakmcppdaaGreat.Kv
open Go Go.Proofs.YtbbnmgakmcppdaaGreat.Vg Go.Proofs.YtbbnmgakmcppdaaGreat.T Go.Proofs.YtbbnmgakmcppdaaGreat.Api
set_option linter.unusedSimpArgs false
set_option linter.unusedVariables false
attribute [local irreducible] VO VC VA

abbrev KvM := List (ByteArray × (ByteArray × Int))
def cellV (x : ByteArray × Int) : Value := .agg ([.string x.1, .int .i64 x.2] : List Value).toArray
def resC (r : ResM) : List Value := [.int .i64 r.code, .string r.value, .int .i64 r.version, .int .i64 r.at_]
def nilB : ByteArray := ⟨#[]⟩
def resZ : ResM := ⟨0, nilB, 0, 0⟩
def kvH (p : Nat) (S : KvM) : HP := hex fun b : Nat => hsep [pt p [.map (some b)] 225, mapH strV cellV b S]
theorem kv_in {Fr : Nat → Prop} {w : World} {p : Nat} {S : KvM} (h : SatIn Fr [kvH p S] w) : ∃ b, Blk Fr w p [.map (some b)] ∧ MapBlk Fr w strV cellV b S := by
  obtain ⟨b, hb⟩ := h.ex
  have hs := hb.sep
  exact ⟨b, hs.blk 0 rfl, hs.mapBlk 1 rfl⟩
theorem HOpn.kv (p : Nat) (S : KvM) : HOpn (ι := Nat) (kvH p S) (fun _ => True) (fun b => [pt p [.map (some b)] 225, mapH strV cellV b S]) := fun w ids ⟨b, h⟩ hn => ⟨b, trivial, ids, h, hn, fun _ h => h⟩
theorem Imp.kv {L M : List HP} {p b : Nat} {S : KvM} (h : Imp L (pt p [.map (some b)] 225 :: mapH strV cellV b S :: M)) : Imp L (kvH p S :: M) :=
  Imp.ex (f := fun b : Nat => hsep [pt p [.map (some b)] 225, mapH strV cellV b S]) b (Imp.sep (Ls := [pt p [.map (some b)] 225, mapH strV cellV b S]) h)
theorem SatIn.kv {Fr : Nat → Prop} {L : List HP} {w : World} {p b : Nat} {S : KvM} (h : SatIn Fr L w) (i j : Nat) (hi : L[i]? = some (pt p [.map (some b)] 225)) (hj : L[j]? = some (mapH strV cellV b S)) : SatIn Fr [kvH p S] w := by
  obtain ⟨F, hs, hf⟩ := h
  obtain ⟨ids1, s1, m1⟩ := hs.get hi
  obtain ⟨ids2, s2, m2⟩ := hs.get hj
  refine ⟨ids1 ++ ids2, ⟨ids1 ++ ids2, [], by simp, ⟨b, ids1, ids2, rfl, s1, ids2, [], by simp, s2, rfl⟩, rfl⟩, fun c hc => ?_⟩
  rcases List.mem_append.1 hc with hc | hc
  · exact hf c (m1 c hc)
  · exact hf c (m2 c hc)
theorem keyS : KeyOk Tryz.prog 9 strV := KeyOk.string Tryz.underlying9

def kvLook (S : KvM) (k : ByteArray) (at_ : Int) : ResM := match mGet S k with
  | none => ⟨2, nilB, 0, at_⟩
  | some (v, n) => ⟨1, v, n, at_⟩
def kvApply (S : KvM) (i : Int) (o : OpM) : KvM × ResM :=
  if i < 1 ∨ 4096 < i ∨ opCheck o ≠ 0 then (S, resZ)
  else if o.kind = 1 then (S, kvLook S o.key i)
  else if o.kind = 3 then match mGet S o.key with
    | none => (S, ⟨2, nilB, 0, i⟩)
    | some _ => (mDel S o.key, ⟨1, nilB, 0, i⟩)
  else if o.kind = 4 ∧ ((mGet S o.key).getD (nilB, 0)).2 ≠ o.version then (S, ⟨3, ((mGet S o.key).getD (nilB, 0)).1, ((mGet S o.key).getD (nilB, 0)).2, i⟩)
  else (mPut S o.key (o.value, i), ⟨1, nilB, i, i⟩)

set_option maxRecDepth 100000 in
theorem reads_spec (Fr : Nat → Prop) (w : World) (o : OpM) : Tri Tryz.prog 57 [.agg o.cells.toArray] Fr w [] (fun v L => v = .bool (decide (o.kind = 1) && decide (opCheck o = 0)) ∧ L = []) := by
  refine Tri.of 11 Tryz.func57 rfl (by kernel_rfl) tabOk rfl rfl ?_
  refine VC.seq (VC.region (VO.go (VO.boxA (vs := o.cells) rfl (fun b => VO.go (VO.nil ?_)))))
  (repeat (first|refine zS ?_|refine zR ?_|refine zB ?_|refine zL ?_|refine zC ?_|refine zG (zN ?_)|refine zG (zD 0 rfl rfl rfl rfl ?_)))
  refine VO.go (VO.split 6 rfl rfl (fun h1 => ?_) (fun h1 => ?_))
  · have h1 : o.kind = 1 := eq_of_beq h1
    refine VO.go (VO.ldA 0 o.cells rfl rfl rfl rfl ?_)
    refine VO.go (VO.callV (fun Fr w => check_spec Fr w o) rfl ?_)
    (repeat (first|refine zS ?_|refine zR ?_|refine zB ?_|refine zL ?_|refine zC ?_|refine zG (zN ?_)|refine zG (zD 0 rfl rfl rfl rfl ?_)))
    exact VC.ret (Ret.bool 2 rfl rfl (by simp [h1]; rfl) Imp.nil.ent ⟨rfl, rfl⟩)
  · have h1 : o.kind ≠ 1 := ne_of_beq_false h1
    (repeat (first|refine zS ?_|refine zR ?_|refine zB ?_|refine zL ?_|refine zC ?_|refine zG (zN ?_)|refine zG (zD 0 rfl rfl rfl rfl ?_)))
    exact VC.ret (Ret.bool 2 rfl rfl (by simp [h1]) Imp.nil.ent ⟨rfl, rfl⟩)

set_option maxRecDepth 100000 in
theorem new_spec (Fr : Nat → Prop) (w : World) : Tri Tryz.prog 130 [] Fr w [] (fun v L => ∃ p, v = .pointer (some ⟨p, 0, none⟩) ∧ L = [kvH p []]) := by
  refine Tri.of 4 Tryz.func130 rfl (by kernel_rfl) tabOk rfl rfl ?_
  (repeat (first|refine zS ?_|refine zR ?_|refine zB ?_|refine zL ?_|refine zC ?_|refine zG (zN ?_)|refine zG (zD 0 rfl rfl rfl rfl ?_)))
  refine VO.go (VO.opx (OpT.makeMap strV cellV) ?_)
  rintro _ _ ⟨b, rfl, rfl⟩
  (repeat (first|refine zS ?_|refine zR ?_|refine zB ?_|refine zL ?_|refine zC ?_|refine zG (zN ?_)|refine zG (zD 0 rfl rfl rfl rfl ?_)))
  refine VO.go (VO.light (light_build (pv := [(0, .map (some b))]) [.map (some b)] rfl rfl rfl (by kernel_rfl) rfl) ?_)
  refine VO.go (VO.boxA (vs := [.map (some b)]) rfl fun p => ?_)
  (repeat (first|refine zS ?_|refine zR ?_|refine zB ?_|refine zL ?_|refine zC ?_|refine zG (zN ?_)|refine zG (zD 0 rfl rfl rfl rfl ?_)))
  exact VC.ret (Ret.tmp 0 rfl rfl (Imp.kv Imp.refl).ent ⟨p, rfl, rfl⟩)

set_option maxRecDepth 100000 in
theorem none_spec (Fr : Nat → Prop) (w : World) {p : Nat} {S : KvM} (h : SatIn Fr [kvH p S] w) : Tri Tryz.prog 207 [.pointer (some ⟨p, 0, none⟩)] Fr w [] (fun v L => v = .bool false ∧ L = []) := by
  obtain ⟨b, hp, hm⟩ := kv_in h
  refine Tri.of 12 Tryz.func207 rfl (by kernel_rfl) tabOk rfl rfl ?_
  (repeat (first|refine zS ?_|refine zR ?_|refine zB ?_|refine zL ?_|refine zC ?_|refine zG (zN ?_)|refine zG (zD 0 rfl rfl rfl rfl ?_)|refine zG (zE rfl rfl (RdL.blk hp rfl) ?_)))
  refine VO.go (VO.yes 5 false rfl rfl ?_)
  (repeat (first|refine zS ?_|refine zR ?_|refine zB ?_|refine zL ?_|refine zC ?_|refine zG (zN ?_)|refine zG (zD 0 rfl rfl rfl rfl ?_)|refine zG (zE rfl rfl (RdL.blk hp rfl) ?_)))
  refine VO.go (VO.light (light_mapNil Tryz.underlying223 rfl rfl) ?_)
  (repeat (first|refine zS ?_|refine zR ?_|refine zB ?_|refine zL ?_|refine zC ?_|refine zG (zN ?_)|refine zG (zD 0 rfl rfl rfl rfl ?_)))
  exact VC.ret (Ret.tmp 2 rfl rfl Ent.refl ⟨rfl, rfl⟩)

set_option maxRecDepth 100000 in
theorem look_spec (Fr : Nat → Prop) (w : World) {p : Nat} {S : KvM} (h : SatIn Fr [kvH p S] w) (k : ByteArray) (n : Int) :
    Tri Tryz.prog 195 [.pointer (some ⟨p, 0, none⟩), .string k, .int .i64 n] Fr w [] (fun v L => v = .agg (resC (kvLook S k n)).toArray ∧ L = []) := by
  obtain ⟨b, hp, hm⟩ := kv_in h
  refine Tri.of 31 Tryz.func195 rfl (by kernel_rfl) tabOk rfl rfl ?_
  (repeat (first|refine zS ?_|refine zR ?_|refine zB ?_|refine zL ?_|refine zC ?_|refine zG (zN ?_)|refine zG (zD 0 rfl rfl rfl rfl ?_)))
  refine VO.go (VO.alloc rfl fun r => ?_)
  (repeat (first|refine zS ?_|refine zR ?_|refine zB ?_|refine zL ?_|refine zC ?_|refine zG (zN ?_)|refine zG (zD 0 rfl rfl rfl rfl ?_)))
  refine VO.go (VO.callV' (fun Fr w hF hs _ => none_spec Fr w (h.of hF hs)) rfl ?_)
  (repeat (first|refine zS ?_|refine zR ?_|refine zB ?_|refine zL ?_|refine zC ?_|refine zG (zN ?_)|refine zG (zD 0 rfl rfl rfl rfl ?_)))
  refine VC.condF rfl (VC.skip ?_)
  (repeat (first|refine zS ?_|refine zR ?_|refine zB ?_|refine zL ?_|refine zC ?_|refine zG (zN ?_)|refine zG (zD 0 rfl rfl rfl rfl ?_)|refine zG (zE rfl rfl (RdL.blk hp rfl) ?_)))
  refine VO.go (VO.op1 (OpT.lookup keyS Tryz.underlying223 rfl rfl (a := k) rfl (MpL.blk hm)) ?_)
  cases hg : mGet S k with
  | none =>
    (repeat (first|refine zS ?_|refine zR ?_|refine zB ?_|refine zL ?_|refine zC ?_|refine zG (zN ?_)|refine zG (zD 0 rfl rfl rfl rfl ?_)))
    refine VO.go (VO.alloc rfl fun q => ?_)
    refine VO.go (VO.stA (vs := [.string nilB, .int .i64 0]) 0 rfl rfl rfl rfl (Nat.le_refl _) rfl rfl rfl ?_)
    (repeat (first|refine zS ?_|refine zR ?_|refine zB ?_|refine zL ?_|refine zC ?_|refine zG (zN ?_)|refine zG (zD 0 rfl rfl rfl rfl ?_)))
    refine VC.condT rfl ?_
    (repeat (first|refine zS ?_|refine zR ?_|refine zB ?_|refine zL ?_|refine zC ?_|refine zG (zN ?_)|refine zG (zD 0 rfl rfl rfl rfl ?_)))
    refine VO.go (VO.light (light_build (pv := [(0, .int .i64 2), (3, .int .i64 n)]) (resC ⟨2, nilB, 0, n⟩) rfl rfl rfl (by kernel_rfl) rfl) ?_)
    refine VO.go (VO.stA (vs := resC ⟨2, nilB, 0, n⟩) 1 rfl rfl rfl rfl (Nat.le_refl _) rfl rfl rfl ?_)
    (repeat (first|refine zS ?_|refine zR ?_|refine zB ?_|refine zL ?_|refine zC ?_|refine zG (zN ?_)|refine zG (zD 0 rfl rfl rfl rfl ?_)))
    exact VC.ret (Ret.cell 6 rfl rfl rfl (RdL.many (ds := resC ⟨2, nilB, 0, n⟩) 1 rfl rfl) Imp.nil.ent ⟨by rw [kvLook, hg], rfl⟩)
  | some x =>
    obtain ⟨v, m⟩ := x
    (repeat (first|refine zS ?_|refine zR ?_|refine zB ?_|refine zL ?_|refine zC ?_|refine zG (zN ?_)|refine zG (zD 0 rfl rfl rfl rfl ?_)))
    refine VO.go (VO.alloc rfl fun q => ?_)
    refine VO.go (VO.stA (vs := [.string v, .int .i64 m]) 0 rfl rfl rfl rfl (Nat.le_refl _) rfl rfl rfl ?_)
    (repeat (first|refine zS ?_|refine zR ?_|refine zB ?_|refine zL ?_|refine zC ?_|refine zG (zN ?_)|refine zG (zD 0 rfl rfl rfl rfl ?_)))
    refine VC.condF rfl (VC.skip ?_)
    (repeat (first|refine zS ?_|refine zR ?_|refine zB ?_|refine zL ?_|refine zC ?_|refine zG (zN ?_)|refine zG (zD 0 rfl rfl rfl rfl ?_)))
    refine VO.go (VO.light (light_build (pv := [(0, .int .i64 1), (1, .string v), (2, .int .i64 m), (3, .int .i64 n)]) (resC ⟨1, v, m, n⟩) rfl rfl rfl (by kernel_rfl) rfl) ?_)
    refine VO.go (VO.stA (vs := resC ⟨1, v, m, n⟩) 1 rfl rfl rfl rfl (Nat.le_refl _) rfl rfl rfl ?_)
    (repeat (first|refine zS ?_|refine zR ?_|refine zB ?_|refine zL ?_|refine zC ?_|refine zG (zN ?_)|refine zG (zD 0 rfl rfl rfl rfl ?_)))
    exact VC.ret (Ret.cell 6 rfl rfl rfl (RdL.many (ds := resC ⟨1, v, m, n⟩) 1 rfl rfl) Imp.nil.ent ⟨by rw [kvLook, hg], rfl⟩)

set_option maxRecDepth 100000 in
theorem apply_spec (Fr : Nat → Prop) (w : World) (p : Nat) (S : KvM) (i : Int) (o : OpM) :
    Tri Tryz.prog 206 [.pointer (some ⟨p, 0, none⟩), .int .i64 i, .agg o.cells.toArray] Fr w [kvH p S] (fun v L => v = .agg (resC (kvApply S i o).2).toArray ∧ L = [kvH p (kvApply S i o).1]) := by
  refine Tri.of 96 Tryz.func206 rfl (by kernel_rfl) tabOk rfl rfl ?_
  (repeat (first|refine zS ?_|refine zR ?_|refine zB ?_|refine zL ?_|refine zC ?_|refine zG (zN ?_)|refine zG (zD 0 rfl rfl rfl rfl ?_)))
  refine VO.go (VO.boxA (vs := o.cells) rfl fun ob => ?_)
  refine VO.go (VO.alloc rfl fun r => ?_)
  refine VO.go (VO.nil (VC.seq ?_))
  refine VC.meet (σ := Bool) (fun t => [(0, .pointer (some ⟨p, 0, none⟩)), (1, .int .i64 i), (5, .pointer (some ⟨ob, 0, none⟩)), (6, .pointer (some ⟨r, 0, none⟩)), (23, .bool t)]) (fun _ => [pt r (resC resZ) 42, pt ob o.cells 40, kvH p S]) (fun t => t = true ↔ (i < 1 ∨ 4096 < i ∨ opCheck o ≠ 0)) ?_ ?_
  · refine VC.region ?_
    (repeat (first|refine zS ?_|refine zR ?_|refine zB ?_|refine zL ?_|refine zC ?_|refine zG (zN ?_)|refine zG (zD 0 rfl rfl rfl rfl ?_)))
    refine VO.go (VO.callV' (fun Fr w hF hs hS => none_spec Fr w (hS.at_ 2 rfl)) rfl ?_)
    (repeat (first|refine zS ?_|refine zR ?_|refine zB ?_|refine zL ?_|refine zC ?_|refine zG (zN ?_)|refine zG (zD 0 rfl rfl rfl rfl ?_)))
    refine VO.go (VO.yes 11 false rfl rfl ?_)
    (repeat (first|refine zS ?_|refine zR ?_|refine zB ?_|refine zL ?_|refine zC ?_|refine zG (zN ?_)|refine zG (zD 0 rfl rfl rfl rfl ?_)))
    refine VO.go (VO.split 15 rfl rfl (fun h1 => ?_) (fun h1 => ?_))
    · have h1 := of_decide_eq_true h1
      (repeat (first|refine zS ?_|refine zR ?_|refine zB ?_|refine zL ?_|refine zC ?_|refine zG (zN ?_)|refine zG (zD 0 rfl rfl rfl rfl ?_)))
      refine VO.go (VO.yes 19 true rfl rfl ?_)
      refine VO.go (VO.nil ⟨true, by simp [h1], Sub.cons rfl (Sub.cons rfl (Sub.cons rfl (Sub.cons rfl (Sub.cons rfl (Sub.nil _))))), Ent.refl⟩)
    have h1 := of_decide_eq_false h1
    (repeat (first|refine zS ?_|refine zR ?_|refine zB ?_|refine zL ?_|refine zC ?_|refine zG (zN ?_)|refine zG (zD 0 rfl rfl rfl rfl ?_)))
    refine VO.go (VO.split 19 rfl rfl (fun h2 => ?_) (fun h2 => ?_))
    · have h2 := of_decide_eq_true h2
      (repeat (first|refine zS ?_|refine zR ?_|refine zB ?_|refine zL ?_|refine zC ?_|refine zG (zN ?_)|refine zG (zD 0 rfl rfl rfl rfl ?_)))
      exact ⟨true, by simp [h2], Sub.cons rfl (Sub.cons rfl (Sub.cons rfl (Sub.cons rfl (Sub.cons rfl (Sub.nil _))))), Ent.refl⟩
    have h2 := of_decide_eq_false h2
    refine VO.go (VO.ldA 1 o.cells rfl rfl rfl rfl ?_)
    refine VO.go (VO.callV (fun Fr w => check_spec Fr w o) rfl ?_)
    (repeat (first|refine zS ?_|refine zR ?_|refine zB ?_|refine zL ?_|refine zC ?_|refine zG (zN ?_)|refine zG (zD 0 rfl rfl rfl rfl ?_)))
    exact ⟨_, by simp [h1, h2], Sub.cons rfl (Sub.cons rfl (Sub.cons rfl (Sub.cons rfl (Sub.cons rfl (Sub.nil _))))), Ent.refl⟩
  intro t ht
  refine VC.cond rfl (fun h => ?_) (fun h => VC.skip ?_)
  · have hb := ht.1 h
    have e1 : kvApply S i o = (S, resZ) := by rw [kvApply, if_pos hb]
    (repeat (first|refine zS ?_|refine zR ?_|refine zB ?_|refine zL ?_|refine zC ?_|refine zG (zN ?_)|refine zG (zD 0 rfl rfl rfl rfl ?_)))
    refine VO.go (VO.light (light_build (pv := []) (resC resZ) rfl rfl rfl (by kernel_rfl) rfl) ?_)
    refine VO.go (VO.stA (vs := resC resZ) 0 rfl rfl rfl rfl (Nat.le_refl _) rfl rfl rfl ?_)
    (repeat (first|refine zS ?_|refine zR ?_|refine zB ?_|refine zL ?_|refine zC ?_|refine zG (zN ?_)|refine zG (zD 0 rfl rfl rfl rfl ?_)))
    exact VC.ret (Ret.cell 6 rfl rfl rfl (RdL.many (ds := resC resZ) 0 rfl rfl) (Imp.pick 2 rfl Imp.nil).ent ⟨by rw [e1], by rw [e1]⟩)
  have hb : ¬ (i < 1 ∨ 4096 < i ∨ opCheck o ≠ 0) := fun h' => by rw [ht.2 h'] at h; cases h
  refine VC.opn 2 rfl (HOpn.kv p S) ?_
  intro b _
  generalize hx : (mGet S o.key).getD (nilB, 0) = x
  refine VC.meet (σ := Nat) (fun q => [(0, .pointer (some ⟨p, 0, none⟩)), (1, .int .i64 i), (5, .pointer (some ⟨ob, 0, none⟩)), (6, .pointer (some ⟨r, 0, none⟩)), (7, .pointer (some ⟨q, 0, none⟩)), (8, .bool (mGet S o.key).isSome)])
    (fun q => [pt q [.string x.1, .int .i64 x.2] 240, pt p [.map (some b)] 225, mapH strV cellV b S, pt r (resC resZ) 42, pt ob o.cells 40]) (fun _ => True) ?_ ?_
  · refine VC.draw (ts 0 10 (.only 10 (.only 11 (.take 12 .nil)))) (by kernel_rfl) (by decide +kernel) ?_
    (repeat (first|refine yG (yN ?_)|refine yG (yD 0 rfl rfl rfl rfl rfl ?_)|refine yG (yD 1 rfl rfl rfl rfl rfl ?_)|refine yG (yD 2 rfl rfl rfl rfl rfl ?_)|refine yG (yD 3 rfl rfl rfl rfl rfl ?_)))
    refine VA.go (VA.lookup keyS Tryz.underlying223 rfl rfl rfl (a := o.key) rfl (MpL.one 1 rfl) ?_)
    have hv : ((mGet S o.key).map cellV).getD T.t240.zero = cellV x := by rw [← hx]; cases mGet S o.key <;> rfl
    rw [hv]
    (repeat (first|refine yG (yN ?_)|refine yG (yD 0 rfl rfl rfl rfl rfl ?_)|refine yG (yD 1 rfl rfl rfl rfl rfl ?_)|refine yG (yD 2 rfl rfl rfl rfl rfl ?_)|refine yG (yD 3 rfl rfl rfl rfl rfl ?_)))
    refine VA.go (VA.opP (OpT.alloc rfl) rfl ?_ ?_)
    · rintro v L' ⟨q, rfl, rfl⟩
      exact (by (try refine Pd.st ?_);(repeat (first|exact Pd.nil|exact Pd.fnil|refine Pd.inner ?_|refine Pd.skip (by decide +kernel) ?_|refine zf (zo 0 rfl rfl) ?_|refine zf (zo 1 rfl rfl) ?_|refine zf (zo 2 rfl rfl) ?_|refine zf (zo 3 rfl rfl) ?_|refine zf (zo 4 rfl rfl) ?_|refine zf (zm 0 rfl rfl) ?_|refine zf (zm 1 rfl rfl) ?_|refine zf (zm 2 rfl rfl) ?_|refine zf (zm 3 rfl rfl) ?_|refine zf (zm 4 rfl rfl) ?_|refine zc (zo 0 rfl rfl) ?_|refine zc (zo 1 rfl rfl) ?_|refine zc (zo 2 rfl rfl) ?_|refine zc (zo 3 rfl rfl) ?_|refine zc (zo 4 rfl rfl) ?_|refine zc (zm 0 rfl rfl) ?_|refine zc (zm 1 rfl rfl) ?_|refine zc (zm 2 rfl rfl) ?_|refine zc (zm 3 rfl rfl) ?_|refine zc (zm 4 rfl rfl) ?_|refine Pd.fconsM (MpL.one 0 rfl) ?_|refine Pd.fconsM (MpL.one 1 rfl) ?_|refine Pd.fconsM (MpL.one 2 rfl) ?_|refine Pd.fconsM (MpL.one 3 rfl) ?_|refine Pd.fconsM (MpL.one 4 rfl) ?_|refine Pd.consM (MpL.one 0 rfl) ?_|refine Pd.consM (MpL.one 1 rfl) ?_|refine Pd.consM (MpL.one 2 rfl) ?_|refine Pd.consM (MpL.one 3 rfl) ?_|refine Pd.consM (MpL.one 4 rfl) ?_)))
    rintro v L' ⟨q, rfl, rfl⟩
    refine VA.go (VA.stA (vs := [.string x.1, .int .i64 x.2]) 0 rfl rfl rfl rfl rfl (Nat.le_refl _) rfl rfl rfl (by (try refine Pd.st ?_);(repeat (first|exact Pd.nil|exact Pd.fnil|refine Pd.inner ?_|refine Pd.skip (by decide +kernel) ?_|refine zf (zo 0 rfl rfl) ?_|refine zf (zo 1 rfl rfl) ?_|refine zf (zo 2 rfl rfl) ?_|refine zf (zo 3 rfl rfl) ?_|refine zf (zo 4 rfl rfl) ?_|refine zf (zm 0 rfl rfl) ?_|refine zf (zm 1 rfl rfl) ?_|refine zf (zm 2 rfl rfl) ?_|refine zf (zm 3 rfl rfl) ?_|refine zf (zm 4 rfl rfl) ?_|refine zc (zo 0 rfl rfl) ?_|refine zc (zo 1 rfl rfl) ?_|refine zc (zo 2 rfl rfl) ?_|refine zc (zo 3 rfl rfl) ?_|refine zc (zo 4 rfl rfl) ?_|refine zc (zm 0 rfl rfl) ?_|refine zc (zm 1 rfl rfl) ?_|refine zc (zm 2 rfl rfl) ?_|refine zc (zm 3 rfl rfl) ?_|refine zc (zm 4 rfl rfl) ?_|refine Pd.fconsM (MpL.one 0 rfl) ?_|refine Pd.fconsM (MpL.one 1 rfl) ?_|refine Pd.fconsM (MpL.one 2 rfl) ?_|refine Pd.fconsM (MpL.one 3 rfl) ?_|refine Pd.fconsM (MpL.one 4 rfl) ?_|refine Pd.consM (MpL.one 0 rfl) ?_|refine Pd.consM (MpL.one 1 rfl) ?_|refine Pd.consM (MpL.one 2 rfl) ?_|refine Pd.consM (MpL.one 3 rfl) ?_|refine Pd.consM (MpL.one 4 rfl) ?_))) ?_)
    (repeat (first|refine yG (yN ?_)|refine yG (yD 0 rfl rfl rfl rfl rfl ?_)|refine yG (yD 1 rfl rfl rfl rfl rfl ?_)|refine yG (yD 2 rfl rfl rfl rfl rfl ?_)|refine yG (yD 3 rfl rfl rfl rfl rfl ?_)))
    exact ⟨q, trivial, Sub.cons rfl (Sub.cons rfl (Sub.cons rfl (Sub.cons rfl (Sub.cons rfl (Sub.cons rfl (Sub.nil _)))))), Ent.refl⟩
  intro q _
  have hres : ∀ (R : ResM) {e : Env} {M : List HP} {S' : KvM}, Vg.look e 6 = some (.pointer (some ⟨r, 0, none⟩)) → kvApply S i o = (S', R) → Imp M (pt p [.map (some b)] 225 :: mapH strV cellV b S' :: []) → M[3]? = some (pt r (resC R) 42) →
      Ret ⟨Tryz.prog, tab, tabOk, 96, Fr, w⟩ Tryz.f206 (fun v L => v = .agg (resC (kvApply S i o).2).toArray ∧ L = [kvH p (kvApply S i o).1]) e M := by
    intro R e M S' h6 hk hi hM
    exact Ret.cell 6 rfl h6 rfl (RdL.many (ds := resC R) 3 hM rfl) (Imp.kv hi).ent ⟨by rw [hk], by rw [hk]⟩
  refine VC.meet (σ := Unit) (fun _ => [(0, .pointer (some ⟨p, 0, none⟩)), (1, .int .i64 i), (5, .pointer (some ⟨ob, 0, none⟩)), (6, .pointer (some ⟨r, 0, none⟩))]) (fun _ => [pt q [.string x.1, .int .i64 x.2] 240, pt p [.map (some b)] 225, mapH strV cellV b S, pt r (resC resZ) 42, pt ob o.cells 40]) (fun _ => o.kind ≠ 1 ∧ o.kind ≠ 3 ∧ ¬ (o.kind = 4 ∧ x.2 ≠ o.version)) (VC.block ?_) ?_
  case refine_2 =>
    rintro _ ⟨h1, h2, h3⟩
    refine VC.seq (VC.draw (ts 0 10 (.only 10 .nil)) (by kernel_rfl) (by decide +kernel) ?_)
    (repeat (first|refine yG (yN ?_)|refine yG (yD 0 rfl rfl rfl rfl rfl ?_)|refine yG (yD 1 rfl rfl rfl rfl rfl ?_)|refine yG (yD 2 rfl rfl rfl rfl rfl ?_)|refine yG (yD 3 rfl rfl rfl rfl rfl ?_)|refine yG (yD 4 rfl rfl rfl rfl rfl ?_)))
    refine VA.go (VA.light rfl (light_build (pv := [(0, .string o.value), (1, .int .i64 i)]) [.string o.value, .int .i64 i] rfl rfl rfl (by kernel_rfl) rfl) ?_)
    refine VA.go (VA.opP (OpT.mapUpdate (d := cellV) (u := (o.value, i)) 2 keyS Tryz.underlying223 (a := o.key) rfl rfl rfl rfl) rfl ?_ ?_)
    · rintro v L' ⟨rfl, rfl⟩
      exact (by (try refine Pd.st ?_);(repeat (first|exact Pd.nil|exact Pd.fnil|refine Pd.inner ?_|refine Pd.skip (by decide +kernel) ?_|refine zf (zo 0 rfl rfl) ?_|refine zf (zo 1 rfl rfl) ?_|refine zf (zo 2 rfl rfl) ?_|refine zf (zo 3 rfl rfl) ?_|refine zf (zo 4 rfl rfl) ?_|refine zf (zm 0 rfl rfl) ?_|refine zf (zm 1 rfl rfl) ?_|refine zf (zm 2 rfl rfl) ?_|refine zf (zm 3 rfl rfl) ?_|refine zf (zm 4 rfl rfl) ?_|refine zc (zo 0 rfl rfl) ?_|refine zc (zo 1 rfl rfl) ?_|refine zc (zo 2 rfl rfl) ?_|refine zc (zo 3 rfl rfl) ?_|refine zc (zo 4 rfl rfl) ?_|refine zc (zm 0 rfl rfl) ?_|refine zc (zm 1 rfl rfl) ?_|refine zc (zm 2 rfl rfl) ?_|refine zc (zm 3 rfl rfl) ?_|refine zc (zm 4 rfl rfl) ?_|refine Pd.fconsM (MpL.one 0 rfl) ?_|refine Pd.fconsM (MpL.one 1 rfl) ?_|refine Pd.fconsM (MpL.one 2 rfl) ?_|refine Pd.fconsM (MpL.one 3 rfl) ?_|refine Pd.fconsM (MpL.one 4 rfl) ?_|refine Pd.consM (MpL.one 0 rfl) ?_|refine Pd.consM (MpL.one 1 rfl) ?_|refine Pd.consM (MpL.one 2 rfl) ?_|refine Pd.consM (MpL.one 3 rfl) ?_|refine Pd.consM (MpL.one 4 rfl) ?_)))
    rintro v L' ⟨rfl, rfl⟩
    refine VA.go (VA.nil ?_)
    (repeat (first|refine zS ?_|refine zR ?_|refine zB ?_|refine zL ?_|refine zC ?_|refine zG (zN ?_)|refine zG (zD 0 rfl rfl rfl rfl ?_)))
    refine VO.go (VO.light (light_build (pv := [(0, .int .i64 1), (2, .int .i64 i), (3, .int .i64 i)]) (resC ⟨1, nilB, i, i⟩) rfl rfl rfl (by kernel_rfl) rfl) ?_)
    refine VO.go (VO.stA (vs := resC ⟨1, nilB, i, i⟩) 3 rfl rfl rfl rfl (Nat.le_refl _) rfl rfl rfl ?_)
    (repeat (first|refine zS ?_|refine zR ?_|refine zB ?_|refine zL ?_|refine zC ?_|refine zG (zN ?_)|refine zG (zD 0 rfl rfl rfl rfl ?_)))
    exact VC.ret (hres ⟨1, nilB, i, i⟩ rfl (by rw [kvApply, if_neg hb, if_neg h1, if_neg h2, hx, if_neg h3]) (Imp.pick 1 rfl (Imp.pick 1 rfl Imp.nil)) rfl)
  (repeat (first|refine zS ?_|refine zR ?_|refine zB ?_|refine zL ?_|refine zC ?_|refine zG (zN ?_)|refine zG (zD 0 rfl rfl rfl rfl ?_)|refine zG (zD 1 rfl rfl rfl rfl ?_)|refine zG (zD 2 rfl rfl rfl rfl ?_)|refine zG (zD 3 rfl rfl rfl rfl ?_)|refine zG (zD 4 rfl rfl rfl rfl ?_)))
  refine VC.condE rfl (fun h1 => ?_) (fun h1 => ?_)
  · (repeat (first|refine zS ?_|refine zR ?_|refine zB ?_|refine zL ?_|refine zC ?_|refine zG (zN ?_)|refine zG (zD 0 rfl rfl rfl rfl ?_)|refine zG (zD 1 rfl rfl rfl rfl ?_)|refine zG (zD 2 rfl rfl rfl rfl ?_)|refine zG (zD 3 rfl rfl rfl rfl ?_)|refine zG (zD 4 rfl rfl rfl rfl ?_)))
    refine VO.go (VO.callV' (fun Fr w hF hs hS => look_spec Fr w (SatIn.kv hS 1 2 rfl rfl) o.key i) rfl ?_)
    refine VO.go (VO.stA (vs := resC (kvLook S o.key i)) 3 rfl rfl rfl rfl (Nat.le_refl _) rfl rfl rfl ?_)
    (repeat (first|refine zS ?_|refine zR ?_|refine zB ?_|refine zL ?_|refine zC ?_|refine zG (zN ?_)|refine zG (zD 0 rfl rfl rfl rfl ?_)))
    exact VC.ret (hres (kvLook S o.key i) rfl (by rw [kvApply, if_neg hb, if_pos h1]) (Imp.pick 1 rfl (Imp.pick 1 rfl Imp.nil)) rfl)
  · (repeat (first|refine zS ?_|refine zR ?_|refine zB ?_|refine zL ?_|refine zC ?_|refine zG (zN ?_)|refine zG (zD 0 rfl rfl rfl rfl ?_)|refine zG (zD 1 rfl rfl rfl rfl ?_)|refine zG (zD 2 rfl rfl rfl rfl ?_)|refine zG (zD 3 rfl rfl rfl rfl ?_)|refine zG (zD 4 rfl rfl rfl rfl ?_)))
    refine VO.go (VO.split 48 rfl rfl (fun h2 => ?_) (fun h2 => ?_))
    · have h2 : o.kind = 3 := eq_of_beq h2
      (repeat (first|refine zS ?_|refine zR ?_|refine zB ?_|refine zL ?_|refine zC ?_|refine zG (zN ?_)|refine zG (zD 0 rfl rfl rfl rfl ?_)|refine zG (zD 1 rfl rfl rfl rfl ?_)|refine zG (zD 2 rfl rfl rfl rfl ?_)|refine zG (zD 3 rfl rfl rfl rfl ?_)|refine zG (zD 4 rfl rfl rfl rfl ?_)))
      cases hg : mGet S o.key with
      | none =>
        refine VC.condT rfl ?_
        (repeat (first|refine zS ?_|refine zR ?_|refine zB ?_|refine zL ?_|refine zC ?_|refine zG (zN ?_)|refine zG (zD 0 rfl rfl rfl rfl ?_)))
        refine VO.go (VO.light (light_build (pv := [(0, .int .i64 2), (3, .int .i64 i)]) (resC ⟨2, nilB, 0, i⟩) rfl rfl rfl (by kernel_rfl) rfl) ?_)
        refine VO.go (VO.stA (vs := resC ⟨2, nilB, 0, i⟩) 3 rfl rfl rfl rfl (Nat.le_refl _) rfl rfl rfl ?_)
        (repeat (first|refine zS ?_|refine zR ?_|refine zB ?_|refine zL ?_|refine zC ?_|refine zG (zN ?_)|refine zG (zD 0 rfl rfl rfl rfl ?_)))
        exact VC.ret (hres ⟨2, nilB, 0, i⟩ rfl (by rw [kvApply, if_neg hb, if_neg h1, if_pos h2, hg]) (Imp.pick 1 rfl (Imp.pick 1 rfl Imp.nil)) rfl)
      | some y =>
        refine VC.condF rfl ?_
        (repeat (first|refine zS ?_|refine zR ?_|refine zB ?_|refine zL ?_|refine zC ?_|refine zG (zN ?_)|refine zG (zD 0 rfl rfl rfl rfl ?_)|refine zG (zD 1 rfl rfl rfl rfl ?_)|refine zG (zD 2 rfl rfl rfl rfl ?_)|refine zG (zD 3 rfl rfl rfl rfl ?_)|refine zG (zD 4 rfl rfl rfl rfl ?_)))
        refine VC.cond rfl (fun _ => ?_) (fun h => absurd h2 (ne_of_beq_false h))
        refine VC.seq (VC.draw (ts 0 6 (.only 6 .nil)) (by kernel_rfl) (by decide +kernel) ?_)
        (repeat (first|refine yG (yN ?_)|refine yG (yD 0 rfl rfl rfl rfl rfl ?_)|refine yG (yD 1 rfl rfl rfl rfl rfl ?_)|refine yG (yD 2 rfl rfl rfl rfl rfl ?_)|refine yG (yD 3 rfl rfl rfl rfl rfl ?_)|refine yG (yD 4 rfl rfl rfl rfl rfl ?_)))
        refine VA.go (VA.opP (OpT.delete 2 keyS Tryz.underlying223 (a := o.key) rfl rfl rfl) rfl ?_ ?_)
        · rintro v L' ⟨rfl, rfl⟩
          exact (by (try refine Pd.st ?_);(repeat (first|exact Pd.nil|exact Pd.fnil|refine Pd.inner ?_|refine Pd.skip (by decide +kernel) ?_|refine zf (zo 0 rfl rfl) ?_|refine zf (zo 1 rfl rfl) ?_|refine zf (zo 2 rfl rfl) ?_|refine zf (zo 3 rfl rfl) ?_|refine zf (zo 4 rfl rfl) ?_|refine zf (zm 0 rfl rfl) ?_|refine zf (zm 1 rfl rfl) ?_|refine zf (zm 2 rfl rfl) ?_|refine zf (zm 3 rfl rfl) ?_|refine zf (zm 4 rfl rfl) ?_|refine zc (zo 0 rfl rfl) ?_|refine zc (zo 1 rfl rfl) ?_|refine zc (zo 2 rfl rfl) ?_|refine zc (zo 3 rfl rfl) ?_|refine zc (zo 4 rfl rfl) ?_|refine zc (zm 0 rfl rfl) ?_|refine zc (zm 1 rfl rfl) ?_|refine zc (zm 2 rfl rfl) ?_|refine zc (zm 3 rfl rfl) ?_|refine zc (zm 4 rfl rfl) ?_|refine Pd.fconsM (MpL.one 0 rfl) ?_|refine Pd.fconsM (MpL.one 1 rfl) ?_|refine Pd.fconsM (MpL.one 2 rfl) ?_|refine Pd.fconsM (MpL.one 3 rfl) ?_|refine Pd.fconsM (MpL.one 4 rfl) ?_|refine Pd.consM (MpL.one 0 rfl) ?_|refine Pd.consM (MpL.one 1 rfl) ?_|refine Pd.consM (MpL.one 2 rfl) ?_|refine Pd.consM (MpL.one 3 rfl) ?_|refine Pd.consM (MpL.one 4 rfl) ?_)))
        rintro v L' ⟨rfl, rfl⟩
        refine VA.go (VA.nil ?_)
        (repeat (first|refine zS ?_|refine zR ?_|refine zB ?_|refine zL ?_|refine zC ?_|refine zG (zN ?_)|refine zG (zD 0 rfl rfl rfl rfl ?_)))
        refine VO.go (VO.light (light_build (pv := [(0, .int .i64 1), (3, .int .i64 i)]) (resC ⟨1, nilB, 0, i⟩) rfl rfl rfl (by kernel_rfl) rfl) ?_)
        refine VO.go (VO.stA (vs := resC ⟨1, nilB, 0, i⟩) 3 rfl rfl rfl rfl (Nat.le_refl _) rfl rfl rfl ?_)
        (repeat (first|refine zS ?_|refine zR ?_|refine zB ?_|refine zL ?_|refine zC ?_|refine zG (zN ?_)|refine zG (zD 0 rfl rfl rfl rfl ?_)))
        exact VC.ret (hres ⟨1, nilB, 0, i⟩ rfl (by rw [kvApply, if_neg hb, if_neg h1, if_pos h2, hg]) (Imp.pick 1 rfl (Imp.pick 1 rfl Imp.nil)) rfl)
    have h2 : o.kind ≠ 3 := ne_of_beq_false h2
    (repeat (first|refine zS ?_|refine zR ?_|refine zB ?_|refine zL ?_|refine zC ?_|refine zG (zN ?_)|refine zG (zD 0 rfl rfl rfl rfl ?_)|refine zG (zD 1 rfl rfl rfl rfl ?_)|refine zG (zD 2 rfl rfl rfl rfl ?_)|refine zG (zD 3 rfl rfl rfl rfl ?_)|refine zG (zD 4 rfl rfl rfl rfl ?_)))
    refine VC.condF rfl ?_
    (repeat (first|refine zS ?_|refine zR ?_|refine zB ?_|refine zL ?_|refine zC ?_|refine zG (zN ?_)|refine zG (zD 0 rfl rfl rfl rfl ?_)|refine zG (zD 1 rfl rfl rfl rfl ?_)|refine zG (zD 2 rfl rfl rfl rfl ?_)|refine zG (zD 3 rfl rfl rfl rfl ?_)|refine zG (zD 4 rfl rfl rfl rfl ?_)))
    refine VC.cond rfl (fun h => absurd (eq_of_beq h) h2) (fun _ => ?_)
    (repeat (first|refine zS ?_|refine zR ?_|refine zB ?_|refine zL ?_|refine zC ?_|refine zG (zN ?_)|refine zG (zD 0 rfl rfl rfl rfl ?_)|refine zG (zD 1 rfl rfl rfl rfl ?_)|refine zG (zD 2 rfl rfl rfl rfl ?_)|refine zG (zD 3 rfl rfl rfl rfl ?_)|refine zG (zD 4 rfl rfl rfl rfl ?_)))
    refine VO.go (VO.split 70 rfl rfl (fun h3 => ?_) (fun h3 => ?_))
    · have h3 : o.kind = 4 := eq_of_beq h3
      (repeat (first|refine zS ?_|refine zR ?_|refine zB ?_|refine zL ?_|refine zC ?_|refine zG (zN ?_)|refine zG (zD 0 rfl rfl rfl rfl ?_)|refine zG (zD 1 rfl rfl rfl rfl ?_)|refine zG (zD 2 rfl rfl rfl rfl ?_)|refine zG (zD 3 rfl rfl rfl rfl ?_)|refine zG (zD 4 rfl rfl rfl rfl ?_)))
      refine VC.cond rfl (fun h4 => ?_) (fun h4 => ?_)
      · have h4 : x.2 ≠ o.version := by simpa using h4
        (repeat (first|refine zS ?_|refine zR ?_|refine zB ?_|refine zL ?_|refine zC ?_|refine zG (zN ?_)|refine zG (zD 0 rfl rfl rfl rfl ?_)|refine zG (zD 1 rfl rfl rfl rfl ?_)|refine zG (zD 2 rfl rfl rfl rfl ?_)|refine zG (zD 3 rfl rfl rfl rfl ?_)|refine zG (zD 4 rfl rfl rfl rfl ?_)))
        refine VO.go (VO.light (light_build (pv := [(0, .int .i64 3), (1, .string x.1), (2, .int .i64 x.2), (3, .int .i64 i)]) (resC ⟨3, x.1, x.2, i⟩) rfl rfl rfl (by kernel_rfl) rfl) ?_)
        refine VO.go (VO.stA (vs := resC ⟨3, x.1, x.2, i⟩) 3 rfl rfl rfl rfl (Nat.le_refl _) rfl rfl rfl ?_)
        (repeat (first|refine zS ?_|refine zR ?_|refine zB ?_|refine zL ?_|refine zC ?_|refine zG (zN ?_)|refine zG (zD 0 rfl rfl rfl rfl ?_)))
        exact VC.ret (hres ⟨3, x.1, x.2, i⟩ rfl (by rw [kvApply, if_neg hb, if_neg h1, if_neg h2, hx, if_pos ⟨h3, h4⟩]) (Imp.pick 1 rfl (Imp.pick 1 rfl Imp.nil)) rfl)
      · have h4 : x.2 = o.version := by simpa using h4
        exact VC.skip ⟨(), ⟨h1, h2, fun h => h.2 h4⟩, Sub.cons rfl (Sub.cons rfl (Sub.cons rfl (Sub.cons rfl (Sub.nil _)))), Ent.refl⟩
    · have h3 : o.kind ≠ 4 := ne_of_beq_false h3
      (repeat (first|refine zS ?_|refine zR ?_|refine zB ?_|refine zL ?_|refine zC ?_|refine zG (zN ?_)|refine zG (zD 0 rfl rfl rfl rfl ?_)|refine zG (zD 1 rfl rfl rfl rfl ?_)|refine zG (zD 2 rfl rfl rfl rfl ?_)|refine zG (zD 3 rfl rfl rfl rfl ?_)|refine zG (zD 4 rfl rfl rfl rfl ?_)))
      exact VC.condF rfl (VC.skip ⟨(), ⟨h1, h2, fun h => h3 h.1⟩, Sub.cons rfl (Sub.cons rfl (Sub.cons rfl (Sub.cons rfl (Sub.nil _)))), Ent.refl⟩)
end Go.Proofs.YtbbnmgakmcppdaaGreat.Kv
