/- The scheduler: what each of its functions does. No condition. -/
import Derived.Test.YtbbnmgakmcppdaaGreatRing
namespace Go.Proofs.YtbbnmgakmcppdaaGreat.Sched
open Go Go.Proofs.YtbbnmgakmcppdaaGreat.Vg Go.Proofs.YtbbnmgakmcppdaaGreat.T Go.Proofs.YtbbnmgakmcppdaaGreat.Api Go.Proofs.YtbbnmgakmcppdaaGreat.Ring
set_option linter.unusedSimpArgs false
set_option linter.unusedVariables false
attribute [local irreducible] VO VC VA

/-! ### What it is, without memory -/
structure ClsM where
  q : List FrameM
  quantum : Int
  credit : Int
  served : Int
structure SchM where
  cls : List ClsM
  cap : Nat
  turn : Nat
  fresh : Bool
def SchM.setC (S : SchM) (k : Nat) (c : ClsM) : SchM := { S with cls := S.cls.set k c }
def SchM.pass (S : SchM) : SchM := { S with turn := (S.turn + 1) % S.cls.length, fresh := true }
def SchM.idle (S : SchM) : Bool := S.cls.all fun c => c.q.isEmpty
/-- Bounds of all that is counted. -/
structure ClsM.Wf (c : ClsM) : Prop where
  q0 : 96 ≤ c.quantum
  q1 : c.quantum ≤ 65536
  c0 : 0 ≤ c.credit
  c1 : c.credit ≤ c.quantum + 95
  s0 : 0 ≤ c.served
  s1 : c.served ≤ 4611686018427387904
structure SchM.Wf (S : SchM) : Prop where
  n0 : 1 ≤ S.cls.length
  n1 : S.cls.length ≤ 4
  cap0 : 1 ≤ S.cap
  cap1 : S.cap ≤ 16
  turn : S.turn < S.cls.length
  cls : ∀ c ∈ S.cls, c.Wf
  qs : ∀ c ∈ S.cls, c.q.length ≤ S.cap
  low : ∀ k c, S.cls[k]? = some c → (k = S.turn → S.fresh = true) → c.credit ≤ 95

/-! ### How it lies in memory -/
abbrev Row := Nat × ClsM
def clsCs (r : Row) : List Value := [.pointer (some ⟨r.1, 0, none⟩), .int .i64 r.2.quantum, .int .i64 r.2.credit, .int .i64 r.2.served]
theorem clsCs_len (r : Row) : (clsCs r).length = 4 := rfl
structure SchS where
  cb : Nat
  ccap : Nat
  rest : List Value
  rows : List Row
structure SchOk (S : SchM) (s : SchS) : Prop where
  wf : S.Wf
  rows : s.rows.map Prod.snd = S.cls
  cap : s.rows.length ≤ s.ccap
def schCs (S : SchM) (s : SchS) : List Value := [.slice (some ⟨s.cb, 0, none⟩) s.rows.length s.ccap, .int .i64 S.turn, .bool S.fresh]
def schL (p : Nat) (S : SchM) (s : SchS) : List HP := pt p (schCs S s) 228 :: pt s.cb (flat clsCs s.rows ++ s.rest) 233 :: s.rows.map fun r => ringH r.1 r.2.q S.cap
def schH (p : Nat) (S : SchM) : HP := hex fun s => hsep (hpure (SchOk S s) :: schL p S s)

structure SchIn (Fr : Nat → Prop) (w : World) (p : Nat) (S : SchM) (s : SchS) : Prop where
  ok : SchOk S s
  sch : Blk Fr w p (schCs S s)
  cls : Blk Fr w s.cb (flat clsCs s.rows ++ s.rest)
  ring : ∀ (k : Nat) (r : Row), s.rows[k]? = some r → SatIn Fr [ringH r.1 r.2.q S.cap] w
theorem SchIn.of {Fr : Nat → Prop} {w : World} {p : Nat} {S : SchM} (h : SatIn Fr [schH p S] w) : ∃ s, SchIn Fr w p S s := by
  obtain ⟨s, h⟩ := h.ex
  have h := h.sep
  exact ⟨s, h.pure 0 rfl, h.blk 1 rfl, h.blk 2 rfl, fun k r hr => h.at_ (k + 3) (by simp [schL, hr])⟩
theorem HOpn.sch (p : Nat) (S : SchM) : HOpn (schH p S) (fun s => SchOk S s) (fun s => schL p S s) := by
  rintro w ids ⟨s, h⟩ hn
  obtain ⟨F, G, rfl, ⟨rfl, h1⟩, h2⟩ := h
  exact ⟨s, h1, G, h2, by simpa using hn, fun b hb => by simpa using hb⟩
theorem Imp.sch {p : Nat} {S : SchM} {L M : List HP} (s : SchS) (hs : SchOk S s) (h : Imp L (schL p S s ++ M)) : Imp L (schH p S :: M) :=
  Imp.ex s (Imp.sep (Imp.trans h (Imp.app (L := schL p S s) (M := _ :: schL p S s) (Imp.pure hs Imp.refl) Imp.refl)))

theorem SchOk.len {S : SchM} {s : SchS} (h : SchOk S s) : s.rows.length = S.cls.length := by rw [← h.rows, List.length_map]
theorem SchOk.row {S : SchM} {s : SchS} (h : SchOk S s) {k : Nat} (hk : k < S.cls.length) : ∃ p c, s.rows[k]? = some (p, c) ∧ S.cls[k]? = some c := by
  have hk' : k < s.rows.length := by rw [h.len]; exact hk
  refine ⟨s.rows[k].1, s.rows[k].2, by simp [List.getElem?_eq_getElem hk'], ?_⟩
  rw [← h.rows, List.getElem?_map, List.getElem?_eq_getElem hk']; rfl

/-! ### Looking -/
theorem none_spec (Fr : Nat → Prop) (w : World) {p : Nat} {a : Option Addr} {n c : Nat} {cs : List Value} (h : Blk Fr w p (.slice a n c :: cs)) : Tri Tryz.prog 226 [.pointer (some ⟨p, 0, none⟩)] Fr w [] (fun v L => v = .bool (decide (n = 0)) ∧ L = []) := by
  refine Tri.of 13 Tryz.func226 rfl (by kernel_rfl) tabOk rfl rfl ?_
  (repeat (first|refine zS ?_|refine zR ?_|refine zB ?_|refine zL ?_|refine zC ?_|refine zG (zN ?_)|refine zG (zD 0 rfl rfl rfl rfl ?_)))
  refine VO.go (VO.split 5 rfl rfl (fun h => by cases h) (fun _ => ?_))
  (repeat (first|refine zS ?_|refine zR ?_|refine zB ?_|refine zL ?_|refine zC ?_|refine zG (zN ?_)|refine zG (zE rfl rfl (RdL.blk h rfl) ?_)))
  exact VC.ret (Ret.bool 2 rfl rfl (by cases n <;> rfl) Ent.refl ⟨rfl, rfl⟩)
theorem none_nil (Fr : Nat → Prop) (w : World) : Tri Tryz.prog 226 [.pointer none] Fr w [] (fun v L => v = .bool true ∧ L = []) := by
  refine Tri.of 13 Tryz.func226 rfl (by kernel_rfl) tabOk rfl rfl ?_
  (repeat (first|refine zS ?_|refine zR ?_|refine zB ?_|refine zL ?_|refine zC ?_|refine zG (zN ?_)|refine zG (zD 0 rfl rfl rfl rfl ?_)))
  refine VO.go (VO.split 5 rfl rfl (fun _ => ?_) (fun h => by cases h))
  (repeat (first|refine zS ?_|refine zR ?_|refine zB ?_|refine zL ?_|refine zC ?_|refine zG (zN ?_)|refine zG (zD 0 rfl rfl rfl rfl ?_)))
  exact VC.ret (Ret.bool 2 rfl rfl rfl Ent.refl ⟨rfl, rfl⟩)

theorem has_spec (Fr : Nat → Prop) (w : World) {p n c : Nat} {a : Option Addr} {cs : List Value} (i : Int) (h : Blk Fr w p (.slice a n c :: cs)) : Tri Tryz.prog 217 [.pointer (some ⟨p, 0, none⟩), .int .i64 i] Fr w [] (fun v L => v = .bool (decide (0 ≤ i ∧ i < n)) ∧ L = []) := by
  refine Tri.of 21 Tryz.func217 rfl (by kernel_rfl) tabOk rfl rfl ?_
  (repeat (first|refine zS ?_|refine zR ?_|refine zB ?_|refine zL ?_|refine zC ?_|refine zG (zN ?_)|refine zG (zD 0 rfl rfl rfl rfl ?_)))
  refine VO.go (VO.callV' (fun Fr w hF hs _ => none_spec Fr w (h.of hF hs)) rfl (VO.go (VO.split 8 rfl rfl (fun h1 => ?_) (fun h1 => ?_))))
  · have h1 : n ≠ 0 := by simpa using h1
    refine VO.go (VO.split 12 rfl rfl (fun h2 => ?_) (fun h2 => ?_))
    · have h2 := of_decide_eq_true h2
      (repeat (first|refine zS ?_|refine zR ?_|refine zB ?_|refine zL ?_|refine zC ?_|refine zG (zN ?_)|refine zG (zE rfl rfl (RdL.blk h rfl) ?_)))
      exact VC.ret (Ret.bool 4 rfl rfl (by simp [h2]) Ent.refl ⟨rfl, rfl⟩)
    · have h2 := of_decide_eq_false h2
      (repeat (first|refine zS ?_|refine zR ?_|refine zB ?_|refine zL ?_|refine zC ?_|refine zG (zN ?_)|refine zG (zD 0 rfl rfl rfl rfl ?_)))
      exact VC.ret (Ret.bool 4 rfl rfl (by simp [h2]) Ent.refl ⟨rfl, rfl⟩)
  · have h1 : n = 0 := by simpa using h1
    refine VO.go (VO.yes 12 false rfl rfl ?_)
    (repeat (first|refine zS ?_|refine zR ?_|refine zB ?_|refine zL ?_|refine zC ?_|refine zG (zN ?_)|refine zG (zD 0 rfl rfl rfl rfl ?_)))
    exact VC.ret (Ret.bool 4 rfl rfl (by symm; apply decide_eq_false; omega) Ent.refl ⟨rfl, rfl⟩)
theorem has_nil (Fr : Nat → Prop) (w : World) (i : Int) : Tri Tryz.prog 217 [.pointer none, .int .i64 i] Fr w [] (fun v L => v = .bool false ∧ L = []) := by
  refine Tri.of 21 Tryz.func217 rfl (by kernel_rfl) tabOk rfl rfl ?_
  (repeat (first|refine zS ?_|refine zR ?_|refine zB ?_|refine zL ?_|refine zC ?_|refine zG (zN ?_)|refine zG (zD 0 rfl rfl rfl rfl ?_)))
  refine VO.go (VO.callV' (fun Fr w hF hs _ => none_nil Fr w) rfl (VO.go (VO.yes 8 false rfl rfl (VO.go (VO.yes 12 false rfl rfl ?_)))))
  (repeat (first|refine zS ?_|refine zR ?_|refine zB ?_|refine zL ?_|refine zC ?_|refine zG (zN ?_)|refine zG (zD 0 rfl rfl rfl rfl ?_)))
  exact VC.ret (Ret.bool 4 rfl rfl rfl Ent.refl ⟨rfl, rfl⟩)

def SchM.at_ (S : SchM) (i : Int) : Option ClsM := if 0 ≤ i then S.cls[i.toNat]? else none
def SchM.lenM (S : SchM) (i : Int) : Int := match S.at_ i with
  | some c => c.q.length
  | none => 0
def SchM.servedM (S : SchM) (i : Int) : Int := match S.at_ i with
  | some c => c.served
  | none => 0
theorem SchM.at_nat (S : SchM) (k : Nat) : S.at_ k = S.cls[k]? := by simp [SchM.at_]
theorem SchM.at_out {S : SchM} {i : Int} (h : ¬ (0 ≤ i ∧ i < S.cls.length)) : S.at_ i = none := by
  unfold SchM.at_; split
  · rw [List.getElem?_eq_none]; omega
  · rfl

theorem cls_cell {rows : List Row} {k j : Nat} {r : Row} {v : Value} (hr : rows[k]? = some r) (hj : (clsCs r)[j]? = some v) (rest : List Value) : (flat clsCs rows ++ rest)[k * 4 + j]? = some v := flat_cell clsCs_len hr hj rest

theorem len_spec (Fr : Nat → Prop) (w : World) {p : Nat} {S : SchM} (i : Int) (h : SatIn Fr [schH p S] w) : Tri Tryz.prog 186 [.pointer (some ⟨p, 0, none⟩), .int .i64 i] Fr w [] (fun v L => v = .int .i64 (S.lenM i) ∧ L = []) := by
  obtain ⟨s, h⟩ := SchIn.of h
  have hb := h.sch
  have hn := h.ok.len
  refine Tri.of 18 Tryz.func186 rfl (by kernel_rfl) tabOk rfl rfl ?_
  (repeat (first|refine zS ?_|refine zR ?_|refine zB ?_|refine zL ?_|refine zC ?_|refine zG (zN ?_)|refine zG (zD 0 rfl rfl rfl rfl ?_)))
  refine VO.go (VO.callV' (fun Fr w hF hs _ => has_spec Fr w i (hb.of hF hs)) rfl (VO.go (VO.nil ?_)))
  refine VC.condN rfl (fun h1 => ?_) (fun h1 => ?_)
  · have h1 := of_decide_eq_false h1
    (repeat (first|refine zS ?_|refine zR ?_|refine zB ?_|refine zL ?_|refine zC ?_|refine zG (zN ?_)|refine zG (zD 0 rfl rfl rfl rfl ?_)))
    exact VC.ret (Ret.int 4 rfl rfl (by simp only [SchM.lenM, SchM.at_out (hn ▸ h1)]) Ent.refl ⟨rfl, rfl⟩)
  · have h1 := of_decide_eq_true h1
    obtain ⟨k, rfl⟩ := Int.eq_ofNat_of_zero_le h1.1
    have hk : k < S.cls.length := by omega
    obtain ⟨q, c, hr, hc⟩ := h.ok.row hk
    refine VC.skip ?_
    (repeat (first|refine zS ?_|refine zR ?_|refine zB ?_|refine zL ?_|refine zC ?_|refine zG (zN ?_)|refine zG (zE rfl rfl (RdL.blk hb rfl) ?_)))
    refine VO.go (VO.light (light_idx k rfl rfl rfl rfl rfl rfl (by omega)) ?_)
    refine VO.go (VO.load rfl rfl (RdL.blk h.cls (by rw [Nat.zero_add]; exact cls_cell (j := 0) hr rfl _)) ?_)
    refine VO.go (VO.callV' (fun Fr w hF hs _ => Ring.len_spec Fr w ((h.ring k _ hr).of hF hs)) rfl (VO.go (VO.nil ?_)))
    exact VC.ret (Ret.int 4 rfl rfl (by simp [SchM.lenM, SchM.at_nat, hc]) Ent.refl ⟨rfl, rfl⟩)

theorem served_spec (Fr : Nat → Prop) (w : World) {p : Nat} {S : SchM} (i : Int) (h : SatIn Fr [schH p S] w) : Tri Tryz.prog 187 [.pointer (some ⟨p, 0, none⟩), .int .i64 i] Fr w [] (fun v L => v = .int .i64 (S.servedM i) ∧ L = []) := by
  obtain ⟨s, h⟩ := SchIn.of h
  have hb := h.sch
  have hn := h.ok.len
  refine Tri.of 17 Tryz.func187 rfl (by kernel_rfl) tabOk rfl rfl ?_
  (repeat (first|refine zS ?_|refine zR ?_|refine zB ?_|refine zL ?_|refine zC ?_|refine zG (zN ?_)|refine zG (zD 0 rfl rfl rfl rfl ?_)))
  refine VO.go (VO.callV' (fun Fr w hF hs _ => has_spec Fr w i (hb.of hF hs)) rfl (VO.go (VO.nil ?_)))
  refine VC.condN rfl (fun h1 => ?_) (fun h1 => ?_)
  · have h1 := of_decide_eq_false h1
    (repeat (first|refine zS ?_|refine zR ?_|refine zB ?_|refine zL ?_|refine zC ?_|refine zG (zN ?_)|refine zG (zD 0 rfl rfl rfl rfl ?_)))
    exact VC.ret (Ret.int 4 rfl rfl (by simp only [SchM.servedM, SchM.at_out (hn ▸ h1)]) Ent.refl ⟨rfl, rfl⟩)
  · have h1 := of_decide_eq_true h1
    obtain ⟨k, rfl⟩ := Int.eq_ofNat_of_zero_le h1.1
    have hk : k < S.cls.length := by omega
    obtain ⟨q, c, hr, hc⟩ := h.ok.row hk
    refine VC.skip ?_
    (repeat (first|refine zS ?_|refine zR ?_|refine zB ?_|refine zL ?_|refine zC ?_|refine zG (zN ?_)|refine zG (zE rfl rfl (RdL.blk hb rfl) ?_)))
    refine VO.go (VO.light (light_idx k rfl rfl rfl rfl rfl rfl (by omega)) ?_)
    refine VO.go (VO.load rfl rfl (RdL.blk h.cls (by rw [Nat.zero_add]; exact cls_cell hr rfl _)) (VO.go (VO.nil ?_)))
    exact VC.ret (Ret.int 4 rfl rfl (by simp [SchM.servedM, SchM.at_nat, hc]) Ent.refl ⟨rfl, rfl⟩)

theorem pass_spec (Fr : Nat → Prop) (w : World) {p : Nat} {a : Addr} {n c t : Nat} {f : Bool} (hn : 1 ≤ n) (ht : t ≤ 1000) :
    Tri Tryz.prog 229 [.pointer (some ⟨p, 0, none⟩)] Fr w [pt p [.slice (some a) n c, .int .i64 t, .bool f] 228]
      (fun v L => v = .tuple #[] ∧ L = [pt p [.slice (some a) n c, .int .i64 ((t + 1) % n : Nat), .bool true] 228]) := by
  refine Tri.of 19 Tryz.func229 rfl (by kernel_rfl) tabOk rfl rfl ?_
  refine VC.seq ?_
  refine VC.draw (ts 0 14 (.only 14 .nil)) (by kernel_rfl) (by kernel_rfl) ?_
  (repeat (first|refine yG (yN ?_)|refine yG (yD 0 rfl rfl rfl rfl rfl ?_)))
  refine VA.go (VA.add rfl rfl rfl ?_ ?_ ?_)
  · omega
  · omega
  (repeat (first|refine yG (yN ?_)|refine yG (yD 0 rfl rfl rfl rfl rfl ?_)))
  refine VA.go (VA.light rfl (light_rem rfl rfl ?_ ?_) ?_)
  · omega
  · omega
  refine VA.go (VA.st 0 rfl rfl rfl rfl rfl (by show 1 < 3; omega) rfl rfl (by (try refine Pd.st ?_);(repeat (first|exact Pd.nil|exact Pd.fnil|refine Pd.inner ?_|refine Pd.skip (by decide +kernel) ?_|refine zf (zo 0 rfl rfl) ?_|refine zf (zm 0 rfl rfl) ?_|refine zc (zo 0 rfl rfl) ?_|refine zc (zm 0 rfl rfl) ?_))) ?_)
  (repeat (first|refine yG (yN ?_)|refine yG (yD 0 rfl rfl rfl rfl rfl ?_)))
  (repeat (first|refine zS ?_|refine zR ?_|refine zB ?_|refine zL ?_|refine zC ?_|refine zG (zN ?_)|refine zG (zD 0 rfl rfl rfl rfl ?_)))
  refine VO.go (VO.st 0 rfl rfl rfl rfl (by show 2 < 3; omega) rfl rfl (VO.go (VO.nil ?_)))
  exact Ret.void rfl Ent.refl ⟨rfl, by push_cast; rfl⟩

theorem idle_spec (Fr : Nat → Prop) (w : World) {p : Nat} {S : SchM} (h : SatIn Fr [schH p S] w) : Tri Tryz.prog 227 [.pointer (some ⟨p, 0, none⟩)] Fr w [] (fun v L => v = .bool S.idle ∧ L = []) := by
  obtain ⟨s, h⟩ := SchIn.of h
  have hb := h.sch
  have hn := h.ok.len
  have hn4 := h.ok.wf.n1
  refine Tri.of 19 Tryz.func227 rfl (by kernel_rfl) tabOk rfl rfl ?_
  (repeat (first|refine zS ?_|refine zR ?_|refine zB ?_|refine zL ?_|refine zC ?_|refine zG (zN ?_)|refine zG (zE rfl rfl (RdL.blk hb rfl) ?_)))
  refine VC.loop (fun k : Nat => [(8, .slice (some ⟨s.cb, 0, none⟩) s.rows.length s.ccap), (9, .int .i64 s.rows.length), (10, .int .i64 k)]) (fun _ => []) (fun k => k ≤ S.cls.length ∧ ∀ j, j < k → ∀ c, S.cls[j]? = some c → c.q = []) (fun k => 4 - k) 0 ⟨Nat.zero_le _, fun j hj => by omega⟩ (Sub.cons rfl (Sub.cons rfl (Sub.cons rfl (Sub.nil _)))) Ent.refl ?_
  rintro k ⟨hk, hall⟩
  (repeat (first|refine zS ?_|refine zR ?_|refine zB ?_|refine zL ?_|refine zC ?_|refine zG (zN ?_)|refine zG (zD 0 rfl rfl rfl rfl ?_)))
  refine VC.condP rfl (fun h1 => ?_) (fun h1 => ?_)
  · have hk2 : k < S.cls.length := by omega
    obtain ⟨q, c, hr, hc⟩ := h.ok.row hk2
    have hrow : ((flat clsCs s.rows ++ s.rest).drop (0 + k * 4)).take 4 = clsCs (q, c) := by rw [Nat.zero_add]; exact flat_row clsCs_len hr _
    refine VC.skip ?_
    (repeat (first|refine zS ?_|refine zR ?_|refine zB ?_|refine zL ?_|refine zC ?_|refine zG (zN ?_)|refine zG (zD 0 rfl rfl rfl rfl ?_)))
    refine VO.go (VO.light (light_idx k rfl rfl rfl rfl rfl rfl (by omega)) ?_)
    refine VO.go (VO.load rfl rfl (RdL.blkA h.cls hrow) (VO.go (VO.alloc rfl fun b => VO.go (VO.stA (vs := clsCs (q, c)) (cs' := clsCs (q, c)) 0 rfl rfl rfl rfl (Nat.le_refl _) rfl rfl rfl (VO.go (VO.nil ?_))))))
    (repeat (first|refine zS ?_|refine zR ?_|refine zB ?_|refine zL ?_|refine zC ?_|refine zG (zN ?_)|refine zG (zD 0 rfl rfl rfl rfl ?_)))
    refine VO.go (VO.callV' (fun Fr w hF hs _ => Ring.len_spec Fr w ((h.ring k _ hr).of hF hs)) rfl (VO.go (VO.nil ?_)))
    refine VC.condP rfl (fun h2 => ?_) (fun h2 => ?_)
    · (repeat (first|refine zS ?_|refine zR ?_|refine zB ?_|refine zL ?_|refine zC ?_|refine zG (zN ?_)|refine zG (zD 0 rfl rfl rfl rfl ?_)))
      refine VC.ret (Ret.bool 2 rfl rfl ?_ Imp.nil.ent ⟨rfl, rfl⟩)
      symm
      rw [SchM.idle, List.all_eq_false]
      refine ⟨c, List.mem_of_getElem? hc, ?_⟩
      have : 0 < (c.q.length : Int) := h2
      cases hq : c.q with
      | nil => rw [hq] at this; simp at this
      | cons _ _ => simp
    · refine VC.skip ?_
      (repeat (first|refine zS ?_|refine zR ?_|refine zB ?_|refine zL ?_|refine zC ?_|refine zG (zN ?_)|refine zG (zD 0 rfl rfl rfl rfl ?_)))
      refine VO.go (VO.add rfl rfl ?_ ?_ ?_)
      · omega
      · omega
      (repeat (first|refine zS ?_|refine zR ?_|refine zB ?_|refine zL ?_|refine zC ?_|refine zG (zN ?_)|refine zG (zD 0 rfl rfl rfl rfl ?_)))
      refine ⟨k + 1, ⟨by omega, fun j hj c' hc' => ?_⟩, by dsimp only; omega, Sub.cons rfl (Sub.cons rfl (Sub.cons rfl (Sub.nil _))), Imp.nil.ent⟩
      by_cases hjk : j = k
      · subst hjk
        rw [hc] at hc'; cases hc'
        have h2 : ¬ 0 < (c.q.length : Int) := h2
        exact List.eq_nil_of_length_eq_zero (by omega)
      · exact hall j (by omega) c' hc'
  · have hk2 : k = S.cls.length := by omega
    subst hk2
    refine VC.exit ?_
    (repeat (first|refine zS ?_|refine zR ?_|refine zB ?_|refine zL ?_|refine zC ?_|refine zG (zN ?_)|refine zG (zD 0 rfl rfl rfl rfl ?_)))
    refine VC.ret (Ret.bool 2 rfl rfl ?_ Imp.nil.ent ⟨rfl, rfl⟩)
    symm
    rw [SchM.idle, List.all_eq_true]
    intro c hc
    obtain ⟨j, hj⟩ := List.getElem?_of_mem hc
    rw [hall j (List.getElem?_eq_some_iff.1 hj).1 c hj]; rfl

/-! ### Push -/
def SchM.pushM (S : SchM) (f : FrameM) : Int × SchM :=
  match S.at_ f.cls with
  | none => (2, S)
  | some c => if opCheck f.op ≠ 0 then (2, S) else if c.q.length < S.cap then (0, S.setC f.cls.toNat { c with q := c.q ++ [f] }) else (60, S)

theorem set_map {α β : Type} {g : α → β} {l : List α} {k : Nat} {a : α} : (l.map g).set k (g a) = (l.set k a).map g := by rw [List.map_set]
theorem SchOk.setC {S : SchM} {s : SchS} (h : SchOk S s) {k q : Nat} {c c' : ClsM} (hr : s.rows[k]? = some (q, c)) (hw : (S.setC k c').Wf) : SchOk (S.setC k c') { s with rows := s.rows.set k (q, c') } :=
  ⟨hw, by simp [SchM.setC, ← h.rows, List.map_set], by simpa using h.cap⟩
theorem SchM.Wf.set {S : SchM} (h : S.Wf) {k : Nat} {c c' : ClsM} (hc : S.cls[k]? = some c) (hw : c'.Wf) (hq : c'.q.length ≤ S.cap) (hl : (k = S.turn → S.fresh = true) → c'.credit ≤ 95) : (S.setC k c').Wf := by
  have hk := (List.getElem?_eq_some_iff.1 hc).1
  refine ⟨by simpa [SchM.setC] using h.n0, by simpa [SchM.setC] using h.n1, h.cap0, h.cap1, by simpa [SchM.setC] using h.turn, fun x hx => ?_, fun x hx => ?_, fun j x hx hj => ?_⟩
  · rcases List.mem_or_eq_of_mem_set hx with hx | rfl
    · exact h.cls x hx
    · exact hw
  · rcases List.mem_or_eq_of_mem_set hx with hx | rfl
    · exact h.qs x hx
    · exact hq
  · by_cases hjk : k = j
    · subst hjk
      simp only [SchM.setC, List.getElem?_set_self hk, Option.some.injEq] at hx
      subst hx; exact hl hj
    · simp only [SchM.setC, List.getElem?_set_ne hjk] at hx
      exact h.low j x hx hj

theorem flat_map_set {l : List Row} {k : Nat} {a b : Row} (h : clsCs a = clsCs b) : flat clsCs (l.set k a) = flat clsCs (l.set k b) := by simp [flat, List.map_set, h]
theorem flat_same {l : List Row} {k : Nat} {a b : Row} (ha : l[k]? = some a) (h : clsCs a = clsCs b) : flat clsCs l = flat clsCs (l.set k b) := by
  rw [← flat_map_set h]
  have hk := (List.getElem?_eq_some_iff.1 ha)
  rw [show l.set k a = l from by rw [← hk.2]; simp]

theorem Imp.tl {H : HP} {L : List HP} : Imp (H :: L) L := Imp.app (L := [H]) (M := []) Imp.nil Imp.refl
theorem sch_shut {p : Nat} {S : SchM} {s : SchS} (h : SchOk S s) : Imp (schL p S s) [schH p S] := Imp.sch (M := []) s h (Imp.of_eq (List.append_nil _).symm)
theorem schL_q {p k q : Nat} {S : SchM} {s : SchS} {c c' : ClsM} (hr : s.rows[k]? = some (q, c)) (hcs : clsCs (q, c) = clsCs (q, c')) :
    pt p (schCs S s) 228 :: pt s.cb (flat clsCs s.rows ++ s.rest) 233 :: (s.rows.map fun r => ringH r.1 r.2.q S.cap).set k (ringH q c'.q S.cap) = schL p (S.setC k c') { s with rows := s.rows.set k (q, c') } := by
  simp only [schL, schCs, List.length_set, ← flat_same hr hcs, List.map_set]; rfl

set_option maxRecDepth 100000 in
theorem push_spec (Fr : Nat → Prop) (w : World) (p : Nat) (S : SchM) (f : FM) : Tri Tryz.prog 237 [.pointer (some ⟨p, 0, none⟩), .agg (fmc f).toArray] Fr w [schH p S] (fun v L => v = .int .i64 (S.pushM f.1).1 ∧ L = [schH p (S.pushM f.1).2]) := by
  refine Tri.of 33 Tryz.func237 rfl (by kernel_rfl) tabOk rfl rfl ?_
  refine VC.seq (VC.region (VO.go (VO.boxA (vs := fmc f) rfl fun b => VO.go (VO.nil ?_))))
  refine VC.opn 1 rfl (HOpn.sch p S) fun s h => ?_
  refine VC.ent (L' := pt b (fmc f) 46 :: schL p S s) (Imp.perm List.perm_append_comm).ent ?_
  have hn := h.len
  have hn0 := h.wf.n0
  have hn4 := h.wf.n1
  have out : ∀ {X : Cx}, Ent X (pt b (fmc f) 46 :: schL p S s) [schH p S] := fun {X} => (Imp.trans Imp.tl (sch_shut h)).ent
  (repeat (first|refine zS ?_|refine zR ?_|refine zB ?_|refine zL ?_|refine zC ?_|refine zG (zN ?_)|refine zG (zD 0 rfl rfl rfl rfl ?_)))
  refine VO.go (VO.callV' (fun Fr w hF _ hs => none_spec Fr w (hs.blk 1 rfl)) rfl (VO.go (VO.nil ?_)))
  refine VC.condP rfl (fun h0 => by omega) (fun _ => ?_)
  (repeat (first|refine zS ?_|refine zR ?_|refine zB ?_|refine zL ?_|refine zC ?_|refine zG (zN ?_)|refine zG (zD 0 rfl rfl rfl rfl ?_)|refine zG (zD 1 rfl rfl rfl rfl ?_)))
  refine VO.go (VO.callV' (fun Fr w hF _ hs => has_spec Fr w f.1.cls (hs.blk 1 rfl)) rfl (VO.go (VO.split 14 rfl rfl (fun h1 => ?_) (fun h1 => ?_))))
  · have h1 : ¬ (0 ≤ f.1.cls ∧ f.1.cls < s.rows.length) := fun hx => by simp [hx] at h1
    (repeat (first|refine zS ?_|refine zR ?_|refine zB ?_|refine zL ?_|refine zC ?_|refine zG (zN ?_)|refine zG (zD 0 rfl rfl rfl rfl ?_)))
    refine VC.condT rfl ?_
    (repeat (first|refine zS ?_|refine zR ?_|refine zB ?_|refine zL ?_|refine zC ?_|refine zG (zN ?_)|refine zG (zD 0 rfl rfl rfl rfl ?_)))
    have e : S.pushM f.1 = (2, S) := by simp only [SchM.pushM, SchM.at_out (hn ▸ h1)]
    exact VC.ret (Ret.int 4 rfl rfl rfl out ⟨by rw [e], by rw [e]⟩)
  · have h1 : 0 ≤ f.1.cls ∧ f.1.cls < s.rows.length := by simpa using h1
    obtain ⟨k, hfk⟩ := Int.eq_ofNat_of_zero_le h1.1
    have hk : k < S.cls.length := by omega
    obtain ⟨q, c, hr, hc⟩ := h.row hk
    have hat : S.at_ f.1.cls = some c := by rw [hfk, SchM.at_nat, hc]
    (repeat (first|refine zS ?_|refine zR ?_|refine zB ?_|refine zL ?_|refine zC ?_|refine zG (zN ?_)|refine zG (zD 0 rfl rfl rfl rfl ?_)))
    refine VO.go (VO.ldA 0 f.1.op.cells rfl rfl rfl rfl ?_)
    refine VO.go (VO.callV (fun Fr w => check_spec Fr w f.1.op) rfl (VO.go (VO.nil ?_)))
    refine VC.condNE rfl (fun h2 => ?_) (fun h2 => ?_)
    · (repeat (first|refine zS ?_|refine zR ?_|refine zB ?_|refine zL ?_|refine zC ?_|refine zG (zN ?_)|refine zG (zD 0 rfl rfl rfl rfl ?_)))
      have e : S.pushM f.1 = (2, S) := by simp only [SchM.pushM, hat, if_pos h2]
      exact VC.ret (Ret.int 4 rfl rfl rfl out ⟨by rw [e], by rw [e]⟩)
    · have h2' : ¬ opCheck f.1.op ≠ 0 := fun hx => hx h2
      have hcell : (flat clsCs s.rows ++ s.rest)[0 + k * 4]? = some (.pointer (some ⟨q, 0, none⟩)) := by rw [Nat.zero_add]; exact cls_cell (j := 0) hr rfl _
      refine VC.seq (VC.draw (ts 0 10 (.only 10 (ts 11 2 .nil))) (by kernel_rfl) (by kernel_rfl) ?_)
      (repeat (first|refine yG (yN ?_)|refine yG (yD 0 rfl rfl rfl rfl rfl ?_)|refine yG (yD 1 rfl rfl rfl rfl rfl ?_)))
      refine VA.go (VA.light rfl (light_idx k rfl rfl rfl rfl rfl hfk (by omega)) ?_)
      refine VA.go (VA.ld 2 rfl rfl rfl rfl hcell (VA.go (VA.ldA 0 (fmc f) rfl rfl rfl rfl rfl ?_)))
      refine VA.go (VA.callAt (k + 3) (H := ringH q c.q S.cap) (R := pushR q c.q S.cap f.1) (ψ := fun v H => v = .bool (decide (c.q.length < S.cap)) ∧ H = ringH q (if c.q.length < S.cap then c.q ++ [f.1] else c.q) S.cap) (by simp [schL, hr]) (fun Fr w _ _ _ => Ring.push_spec Fr w q c.q S.cap f) rfl rfl (fun v L1 ⟨h3, h4⟩ => ⟨_, h4, h3, rfl⟩) ?_ ?_)
      · rintro _ _ ⟨rfl, rfl⟩
        exact (by (try refine Pd.st ?_);(repeat (first|exact Pd.nil|exact Pd.fnil|refine Pd.inner ?_|refine Pd.skip (by decide +kernel) ?_|refine zf (zo 0 rfl rfl) ?_|refine zf (zo 1 rfl rfl) ?_|refine zf (zm 0 rfl rfl) ?_|refine zf (zm 1 rfl rfl) ?_|refine zf (RdL.blk (RdL.one 2 rfl hcell) rfl) ?_|refine zf ((RdL.one 2 rfl hcell)) ?_|refine zc (zo 0 rfl rfl) ?_|refine zc (zo 1 rfl rfl) ?_|refine zc (zm 0 rfl rfl) ?_|refine zc (zm 1 rfl rfl) ?_|refine zc (RdL.blk (RdL.one 2 rfl hcell) rfl) ?_|refine zc ((RdL.one 2 rfl hcell)) ?_)))
      rintro _ _ ⟨rfl, rfl⟩
      (repeat (first|refine yG (yN ?_)|refine yG (yD 0 rfl rfl rfl rfl rfl ?_)))
      refine VC.condN rfl (fun h3 => ?_) (fun h3 => ?_)
      · have h3 : ¬ c.q.length < S.cap := of_decide_eq_false h3
        (repeat (first|refine zS ?_|refine zR ?_|refine zB ?_|refine zL ?_|refine zC ?_|refine zG (zN ?_)|refine zG (zD 0 rfl rfl rfl rfl ?_)))
        have e : S.pushM f.1 = (60, S) := by simp only [SchM.pushM, hat, if_neg h2', if_neg h3]
        refine VC.ret (Ret.int 4 rfl rfl rfl ?_ ⟨by rw [e], by rw [e]⟩)
        rw [if_neg h3]
        have e2 : S.setC k c = S := by simp only [SchM.setC]; rw [show S.cls.set k c = S.cls from by rw [← (List.getElem?_eq_some_iff.1 hc).2]; simp]
        have e3 : s.rows.set k (q, c) = s.rows := by rw [← (List.getElem?_eq_some_iff.1 hr).2]; simp
        have e4 := schL_q (p := p) (S := S) hr (c' := c) rfl
        rw [e2, e3] at e4
        exact (Imp.trans Imp.tl (Imp.trans (Imp.of_eq e4) (sch_shut h))).ent
      · have h3 : c.q.length < S.cap := of_decide_eq_true h3
        refine VC.skip ?_
        (repeat (first|refine zS ?_|refine zR ?_|refine zB ?_|refine zL ?_|refine zC ?_|refine zG (zN ?_)|refine zG (zD 0 rfl rfl rfl rfl ?_)))
        have e : S.pushM f.1 = (0, S.setC k { c with q := c.q ++ [f.1] }) := by simp only [SchM.pushM, hat, if_neg h2', if_pos h3]; rw [hfk, Int.toNat_natCast]
        refine VC.ret (Ret.int 4 rfl rfl rfl ?_ ⟨by rw [e], by rw [e]⟩)
        rw [if_pos h3]
        have hw : (S.setC k { c with q := c.q ++ [f.1] }).Wf := h.wf.set hc ⟨(h.wf.cls c (List.mem_of_getElem? hc)).q0, (h.wf.cls c (List.mem_of_getElem? hc)).q1, (h.wf.cls c (List.mem_of_getElem? hc)).c0, (h.wf.cls c (List.mem_of_getElem? hc)).c1, (h.wf.cls c (List.mem_of_getElem? hc)).s0, (h.wf.cls c (List.mem_of_getElem? hc)).s1⟩ (by simp; omega) (h.wf.low k c hc)
        exact (Imp.trans Imp.tl (Imp.trans (Imp.of_eq (schL_q (p := p) hr (c' := { c with q := c.q ++ [f.1] }) rfl)) (sch_shut (h.setC hr hw)))).ent

/-! ### Pop -/
def SchM.served2 (a : Int) : Int := if 4611686018427387904 < a then 4611686018427387904 else a
def ClsM.c0 (c : ClsM) : ClsM := { c with credit := 0 }
def ClsM.c1 (c : ClsM) (fr : Bool) : ClsM := { c with credit := if fr then c.credit + c.quantum else c.credit }
def ClsM.c2 (c : ClsM) (fr : Bool) (f : FrameM) (q : List FrameM) : ClsM := ⟨q, c.quantum, if q = [] then 0 else (c.c1 fr).credit - opCost f.op, SchM.served2 (c.served + opCost f.op)⟩
/-- Steps of Pop, at most so many. -/
def SchM.popF : Nat → SchM → Option (FrameM × SchM)
  | 0, _ => none
  | n + 1, S => match S.cls[S.turn]? with
    | none => none
    | some c => match c.q with
      | [] => popF n ⟨S.cls.set S.turn c.c0, S.cap, (S.turn + 1) % S.cls.length, true⟩
      | f :: q => if (c.c1 S.fresh).credit < opCost f.op then popF n ⟨S.cls.set S.turn (c.c1 S.fresh), S.cap, (S.turn + 1) % S.cls.length, true⟩
        else some (f, if q = [] then ⟨S.cls.set S.turn (c.c2 S.fresh f q), S.cap, (S.turn + 1) % S.cls.length, true⟩ else ⟨S.cls.set S.turn (c.c2 S.fresh f q), S.cap, S.turn, false⟩)

theorem opCost_le (o : OpM) : 0 ≤ opCost o ∧ opCost o ≤ 96 := by
  unfold opCost
  split
  · rename_i h
    have hl : opLong o = false := by
      cases hl : opLong o with
      | false => rfl
      | true => unfold opCheck at h; rw [hl] at h; split at h <;> simp at h
    have hk : o.key.size ≤ 16 ∧ o.value.size ≤ 64 := by simp [opLong] at hl; omega
    omega
  · omega

/-- A class changed, and another turn. -/
theorem SchM.Wf.turned {S : SchM} (h : S.Wf) {c' : ClsM} (hw : c'.Wf) (hq : c'.q.length ≤ S.cap) (hl : c'.credit ≤ 95) : SchM.Wf ⟨S.cls.set S.turn c', S.cap, (S.turn + 1) % S.cls.length, true⟩ := by
  have hn := h.n0
  refine ⟨by simpa using h.n0, by simpa using h.n1, h.cap0, h.cap1, by simpa using Nat.mod_lt _ hn, fun x hx => ?_, fun x hx => ?_, fun j x hx _ => ?_⟩
  · rcases List.mem_or_eq_of_mem_set hx with hx | rfl
    · exact h.cls x hx
    · exact hw
  · rcases List.mem_or_eq_of_mem_set hx with hx | rfl
    · exact h.qs x hx
    · exact hq
  · by_cases hjk : S.turn = j
    · subst hjk
      simp only [List.getElem?_set_self h.turn, Option.some.injEq] at hx
      subst hx; exact hl
    · simp only [List.getElem?_set_ne hjk] at hx
      exact h.low j x hx (fun e => absurd e.symm hjk)
theorem SchM.Wf.stays {S : SchM} (h : S.Wf) {c' : ClsM} (hw : c'.Wf) (hq : c'.q.length ≤ S.cap) : SchM.Wf ⟨S.cls.set S.turn c', S.cap, S.turn, false⟩ := by
  refine ⟨by simpa using h.n0, by simpa using h.n1, h.cap0, h.cap1, by simpa using h.turn, fun x hx => ?_, fun x hx => ?_, fun j x hx hj => ?_⟩
  · rcases List.mem_or_eq_of_mem_set hx with hx | rfl
    · exact h.cls x hx
    · exact hw
  · rcases List.mem_or_eq_of_mem_set hx with hx | rfl
    · exact h.qs x hx
    · exact hq
  · have hjk : S.turn ≠ j := fun e => by simpa using hj e.symm
    simp only [List.getElem?_set_ne hjk] at hx
    exact h.low j x hx (fun e => absurd e.symm hjk)

theorem ClsM.Wf.empty {c : ClsM} (h : c.Wf) : c.c0.Wf := ⟨h.q0, h.q1, Int.le_refl _, by have := h.q0; show (0 : Int) ≤ c.quantum + 95; omega, h.s0, h.s1⟩
theorem SchM.Wf.c1 {S : SchM} (h : S.Wf) {c : ClsM} (hc : S.cls[S.turn]? = some c) : (c.c1 S.fresh).Wf := by
  have hw := h.cls c (List.mem_of_getElem? hc)
  have hl := h.low S.turn c hc
  have h1 := hw.q0; have h2 := hw.c0; have h3 := hw.c1
  refine ⟨hw.q0, hw.q1, ?_, ?_, hw.s0, hw.s1⟩
  · show (0 : Int) ≤ if S.fresh then c.credit + c.quantum else c.credit
    split <;> omega
  · show (if S.fresh then c.credit + c.quantum else c.credit) ≤ c.quantum + 95
    split
    · rename_i hf
      have := hl (fun _ => hf)
      omega
    · omega
theorem SchM.Wf.c2 {S : SchM} (h : S.Wf) {c : ClsM} (hc : S.cls[S.turn]? = some c) {f : FrameM} {q : List FrameM} (hq : c.q = f :: q) (hcost : ¬ (c.c1 S.fresh).credit < opCost f.op) : (c.c2 S.fresh f q).Wf ∧ (c.c2 S.fresh f q).q.length ≤ S.cap := by
  have hw := h.c1 hc
  have hb := opCost_le f.op
  have hqs := h.qs c (List.mem_of_getElem? hc)
  have h3 := hw.c1; have h4 : 0 ≤ c.served := hw.s0; have h5 := hw.q0
  have h3' : (c.c1 S.fresh).credit ≤ c.quantum + 95 := h3
  have h5' : 96 ≤ c.quantum := h5
  refine ⟨⟨hw.q0, hw.q1, ?_, ?_, ?_, ?_⟩, ?_⟩
  · show (0 : Int) ≤ if q = [] then 0 else (c.c1 S.fresh).credit - opCost f.op
    split <;> omega
  · show (if q = [] then 0 else (c.c1 S.fresh).credit - opCost f.op) ≤ c.quantum + 95
    split <;> omega
  · show (0 : Int) ≤ SchM.served2 (c.served + opCost f.op)
    unfold SchM.served2; split <;> omega
  · show SchM.served2 (c.served + opCost f.op) ≤ _
    unfold SchM.served2; split <;> omega
  · rw [hq] at hqs; simp at hqs; show q.length ≤ S.cap; omega

theorem flat_stc {rows : List Row} {k j : Nat} {r r' : Row} {v : Value} (hr : rows[k]? = some r) (hj : j < 4) (hc : (clsCs r).set j v = clsCs r') (rest : List Value) : (flat clsCs rows ++ rest).set (0 + k * 4 + j) v = flat clsCs (rows.set k r') ++ rest := by
  rw [Nat.zero_add]; exact flat_setCell clsCs_len hr hj hc rest
theorem flat_stc2 {rows : List Row} {k j : Nat} {r r' : Row} {v : Value} (hk : k < rows.length) (hj : j < 4) (hc : (clsCs r).set j v = clsCs r') (rest : List Value) : (flat clsCs (rows.set k r) ++ rest).set (0 + k * 4 + j) v = flat clsCs (rows.set k r') ++ rest := by
  rw [flat_stc (List.getElem?_set_self hk) hj hc, List.set_set]
theorem rings_same {rows : List Row} {k q cap : Nat} {c : ClsM} (hr : rows[k]? = some (q, c)) : (rows.map fun r => ringH r.1 r.2.q cap) = (rows.map fun r => ringH r.1 r.2.q cap).set k (ringH q c.q cap) := by
  rw [show ringH q c.q cap = (fun r : Row => ringH r.1 r.2.q cap) (q, c) from rfl, set_map, show rows.set k (q, c) = rows from by rw [← (List.getElem?_eq_some_iff.1 hr).2]; simp]
theorem schL_row {p k q t n : Nat} {S : SchM} {s : SchS} {c cA c' : ClsM} {fr : Bool} {x : Int} (hr : s.rows[k]? = some (q, c)) (hcs : clsCs (q, cA) = clsCs (q, c')) (hx : x = t) (hn : n = s.rows.length) :
    pt p [.slice (some ⟨s.cb, 0, none⟩) n s.ccap, .int .i64 x, .bool fr] 228 :: pt s.cb (flat clsCs (s.rows.set k (q, cA)) ++ s.rest) 233 :: (s.rows.map fun r => ringH r.1 r.2.q S.cap).set k (ringH q c'.q S.cap) = schL p ⟨S.cls.set k c', S.cap, t, fr⟩ { s with rows := s.rows.set k (q, c') } := by
  subst hx; subst hn
  simp only [schL, schCs, List.length_set, flat_map_set hcs, List.map_set]
theorem schL_row' {p k q t n : Nat} {S : SchM} {s : SchS} {c cA c' : ClsM} {fr : Bool} {x : Int} (hr : s.rows[k]? = some (q, c)) (hcs : clsCs (q, cA) = clsCs (q, c')) (hq : c'.q = c.q) (hx : x = t) (hn : n = s.rows.length) :
    pt p [.slice (some ⟨s.cb, 0, none⟩) n s.ccap, .int .i64 x, .bool fr] 228 :: pt s.cb (flat clsCs (s.rows.set k (q, cA)) ++ s.rest) 233 :: (s.rows.map fun r => ringH r.1 r.2.q S.cap) = schL p ⟨S.cls.set k c', S.cap, t, fr⟩ { s with rows := s.rows.set k (q, c') } := by
  rw [← schL_row hr hcs hx hn, hq, ← rings_same hr]
theorem SchOk.row' {S : SchM} {s : SchS} (h : SchOk S s) {k q : Nat} {c c' : ClsM} {t : Nat} {fr : Bool} (hr : s.rows[k]? = some (q, c)) (hw : SchM.Wf ⟨S.cls.set k c', S.cap, t, fr⟩) : SchOk ⟨S.cls.set k c', S.cap, t, fr⟩ { s with rows := s.rows.set k (q, c') } :=
  ⟨hw, by simp [← h.rows, List.map_set], by simpa using h.cap⟩

def passH (p cb n c t : Nat) : HP := pt p [.slice (some ⟨cb, 0, none⟩) n c, .int .i64 ((t + 1) % n : Nat), .bool true] 228

set_option maxRecDepth 100000 in
theorem pop_spec (Fr : Nat → Prop) (w : World) (p : Nat) (S0 : SchM) (N : Nat) (f : FrameM) (S1 : SchM) (hp : S0.popF N = some (f, S1)) (hi : S0.idle = false) :
    Tri Tryz.prog 210 [.pointer (some ⟨p, 0, none⟩)] Fr w [schH p S0] (fun v L => (∃ m, v = .tuple #[.agg (fmc (f, m)).toArray, .bool true]) ∧ L = [schH p S1]) := by
  refine Tri.of 107 Tryz.func210 rfl (by kernel_rfl) tabOk rfl rfl ?_
  refine VC.seq (VC.region (VO.go (VO.alloc rfl fun b => VO.go (VO.nil ?_))))
  refine VC.opn 1 rfl (HOpn.sch p S0) fun s0 h0 => ?_
  refine VC.ent (L' := pt b (fmc fmz) 46 :: schL p S0 s0) (Imp.perm List.perm_append_comm).ent ?_
  (repeat (first|refine zS ?_|refine zR ?_|refine zB ?_|refine zL ?_|refine zC ?_|refine zG (zN ?_)|refine zG (zD 0 rfl rfl rfl rfl ?_)))
  refine VO.go (VO.callV' (fun Fr w hF _ hs => none_spec Fr w (hs.blk 1 rfl)) rfl ?_)
  refine VO.go (VO.yes 10 false rfl (decide_eq_false (by have := h0.wf.n0; have := h0.len; omega)) ?_)
  (repeat (first|refine zS ?_|refine zR ?_|refine zB ?_|refine zL ?_|refine zC ?_|refine zG (zN ?_)|refine zG (zD 0 rfl rfl rfl rfl ?_)))
  refine VO.go (VO.callV' (fun Fr w hF _ hs => idle_spec Fr w (SatIn.shut s0 h0 hs.tail)) rfl (VO.go (VO.nil ?_)))
  refine VC.cond rfl (fun h => by rw [hi] at h; cases h) (fun _ => VC.skip ?_)
  refine VC.seq (VC.label (VC.seq (VC.block ?_)))
  refine VC.loop (σ := Nat × SchM × SchS) (fun _ => [(0, .pointer (some ⟨p, 0, none⟩)), (2, .pointer (some ⟨b, 0, none⟩))]) (fun x => pt b (fmc fmz) 46 :: schL p x.2.1 x.2.2) (fun x => SchOk x.2.1 x.2.2 ∧ x.2.1.popF x.1 = some (f, S1)) (fun x => x.1) (N, S0, s0) ⟨h0, hp⟩ (Sub.cons rfl (Sub.cons rfl (Sub.nil _))) Ent.refl ?_
  clear hp
  rintro ⟨N, S, s⟩ ⟨h, hp⟩
  dsimp only at h hp ⊢
  have hn := h.len
  have hn0 := h.wf.n0
  have hn4 := h.wf.n1
  have ht := h.wf.turn
  obtain ⟨q, c, hr, hc⟩ := h.row ht
  have hcell : ∀ {j : Nat} {v : Value}, (clsCs (q, c))[j]? = some v → (flat clsCs s.rows ++ s.rest)[0 + S.turn * 4 + j]? = some v := fun {j v} hj => by rw [Nat.zero_add]; exact cls_cell hr hj _
  cases N with
  | zero => simp [SchM.popF] at hp
  | succ N =>
  simp only [SchM.popF, hc] at hp
  (repeat (first|refine zS ?_|refine zR ?_|refine zB ?_|refine zL ?_|refine zC ?_|refine zG (zN ?_)|refine zG (zD 0 rfl rfl rfl rfl ?_)))
  refine VC.draw (ts 0 10 .nil) (by kernel_rfl) (by kernel_rfl) ?_
  (repeat (first|refine yG (yN ?_)|refine yG (yD 0 rfl rfl rfl rfl rfl ?_)|refine yG (yD 1 rfl rfl rfl rfl rfl ?_)))
  refine VA.go (VA.light rfl (light_idx S.turn rfl rfl rfl rfl rfl rfl (by omega)) ?_)
  (repeat (first|refine yG (yN ?_)|refine yG (yD 0 rfl rfl rfl rfl rfl ?_)))
  (repeat (first|refine zS ?_|refine zR ?_|refine zB ?_|refine zL ?_|refine zC ?_|refine zG (zN ?_)|refine zG (zD 0 rfl rfl rfl rfl ?_)))
  refine VO.go (VO.ld 2 rfl rfl rfl (hcell (j := 0) rfl) ?_)
  refine VO.go (VO.callP (φ := atR c.q 0) (fun Fr w hF _ hs => front_spec (cap := S.cap) Fr w (hs.at_ (S.turn + 3) (by simp [schL, hr]))) rfl ?_)
  intro v hv
  unfold atR at hv
  cases hq : c.q with
  | nil =>
    simp only [hq] at hp
    simp only [hq, List.getElem?_nil] at hv
    subst hv
    refine VO.go (VO.alloc rfl fun b5 => VO.go (VO.stA (vs := fmc fmz) (cs' := fmc fmz) 0 rfl rfl rfl rfl (Nat.le_refl _) rfl rfl rfl (VO.go (VO.nil ?_))))
    (repeat (first|refine zS ?_|refine zR ?_|refine zB ?_|refine zL ?_|refine zC ?_|refine zG (zN ?_)|refine zG (zD 0 rfl rfl rfl rfl ?_)))
    refine VC.condT rfl ?_
    (repeat (first|refine zS ?_|refine zR ?_|refine zB ?_|refine zL ?_|refine zC ?_|refine zG (zN ?_)|refine zG (zD 0 rfl rfl rfl rfl ?_)))
    have hwf := h.wf.turned (c' := c.c0) (h.wf.cls c (List.mem_of_getElem? hc)).empty (h.wf.qs c (List.mem_of_getElem? hc)) (by show (0 : Int) ≤ 95; omega)
    refine VO.go (VO.st 3 rfl rfl rfl rfl (by rw [List.length_append, flat_len clsCs_len]; show 0 + S.turn * 4 + 2 < _; omega) (flat_stc hr (by omega) (r' := (q, c.c0)) rfl s.rest) rfl (VO.go (VO.nil ?_)))
    (repeat (first|refine zS ?_|refine zR ?_|refine zB ?_|refine zL ?_|refine zC ?_|refine zG (zN ?_)|refine zG (zD 0 rfl rfl rfl rfl ?_)))
    refine VO.go (VO.callAt 2 (ψ := fun v H => v = .tuple #[] ∧ H = passH p s.cb s.rows.length s.ccap S.turn) rfl (fun Fr w _ _ _ => pass_spec Fr w (by omega) (by omega)) rfl (fun v L1 ⟨h1, h2⟩ => ⟨_, h2, h1, rfl⟩) ?_)
    rintro _ _ ⟨rfl, rfl⟩
    refine VO.go (VO.nil (VC.exit ⟨(N, _, _), ⟨h.row' hr hwf, hp⟩, Nat.lt_succ_self N, Sub.cons rfl (Sub.cons rfl (Sub.nil _)), ?_⟩))
    refine (Imp.trans Imp.tl (Imp.cons (Imp.of_eq ?_))).ent
    exact schL_row' (c' := c.c0) hr rfl rfl (by rw [hn]) rfl
  | cons g q' =>
    simp only [hq] at hp
    simp only [hq, List.getElem?_cons_zero] at hv
    obtain ⟨m, rfl⟩ := hv
    have hlen : ∀ (l : List Row), l.length = s.rows.length → ∀ j, j < 4 → 0 + S.turn * 4 + j < (flat clsCs l ++ s.rest).length := fun l hl j hj => by rw [List.length_append, flat_len clsCs_len, hl]; omega
    refine VO.go (VO.alloc rfl fun b5 => VO.go (VO.stA (vs := fmc (g, m)) (cs' := fmc (g, m)) 0 rfl rfl rfl rfl (Nat.le_refl _) rfl rfl rfl (VO.go (VO.nil ?_))))
    (repeat (first|refine zS ?_|refine zR ?_|refine zB ?_|refine zL ?_|refine zC ?_|refine zG (zN ?_)|refine zG (zD 0 rfl rfl rfl rfl ?_)))
    refine VC.condF rfl (VC.skip ?_)
    refine VC.meet (σ := Unit) (fun _ => [(0, .pointer (some ⟨p, 0, none⟩)), (2, .pointer (some ⟨b, 0, none⟩)), (4, .pointer (some ⟨s.cb, 0 + S.turn * 4, none⟩)), (5, .pointer (some ⟨b5, 0, none⟩))])
      (fun _ => pt b5 (fmc (g, m)) 46 :: pt b (fmc fmz) 46 :: pt p [.slice (some ⟨s.cb, 0, none⟩) s.rows.length s.ccap, .int .i64 S.turn, .bool false] 228 :: pt s.cb (flat clsCs (s.rows.set S.turn (q, c.c1 S.fresh)) ++ s.rest) 233 :: s.rows.map fun r => ringH r.1 r.2.q S.cap) (fun _ => True) ?_ ?_
    · refine VC.seq (VC.region (VO.go (VO.ld 2 rfl rfl rfl rfl (VO.go (VO.nil ?_)))))
      refine VC.cond (t := S.fresh) rfl (fun hf => ?_) (fun hf => VC.skip ⟨(), trivial, Sub.cons rfl (Sub.cons rfl (Sub.cons rfl (Sub.cons rfl (Sub.nil _)))), Ent.of_eq ?_⟩)
      · refine VC.seq (VC.draw (ts 0 11 (.only 11 .nil)) (by kernel_rfl) (by kernel_rfl) ?_)
        have hwc := h.wf.cls c (List.mem_of_getElem? hc)
        have := hwc.q0; have := hwc.q1; have := hwc.c0; have := hwc.c1
        refine VA.go (VA.ld 3 rfl rfl rfl rfl (hcell (j := 2) rfl) (VA.go (VA.ld 3 rfl rfl rfl rfl (hcell (j := 1) rfl) ?_)))
        refine VA.go (VA.add rfl rfl rfl ?_ ?_ ?_)
        · dsimp only; omega
        · dsimp only; omega
        refine VA.go (VA.st 3 rfl rfl rfl rfl rfl (hlen _ rfl 2 (by omega)) (flat_stc hr (by omega) (r' := (q, c.c1 S.fresh)) (by rw [hf]; rfl) s.rest) rfl (by (try refine Pd.st ?_);(repeat (first|exact Pd.nil|exact Pd.fnil|refine Pd.inner ?_|refine Pd.skip (by decide +kernel) ?_|refine zf (zo 0 rfl rfl) ?_|refine zf (zm 0 rfl rfl) ?_|refine zc (zo 0 rfl rfl) ?_|refine zc (zm 0 rfl rfl) ?_))) ?_)
        (repeat (first|refine yG (yN ?_)|refine yG (yD 0 rfl rfl rfl rfl rfl ?_)))
        (repeat (first|refine zS ?_|refine zR ?_|refine zB ?_|refine zL ?_|refine zC ?_|refine zG (zN ?_)|refine zG (zD 0 rfl rfl rfl rfl ?_)))
        refine VO.go (VO.st 2 rfl rfl rfl rfl (by show 2 < 3; omega) rfl rfl (VO.go (VO.nil ?_)))
        exact ⟨(), trivial, Sub.cons rfl (Sub.cons rfl (Sub.cons rfl (Sub.cons rfl (Sub.nil _)))), Ent.refl⟩
      · unfold schL schCs
        rw [hf, ← flat_same hr (b := (q, c.c1 false)) rfl]
        rfl
    intro _ _
    have hk : S.turn < s.rows.length := by omega
    have hr1 : (s.rows.set S.turn (q, c.c1 S.fresh))[S.turn]? = some (q, c.c1 S.fresh) := List.getElem?_set_self hk
    have hcell1 : ∀ {j : Nat} {v : Value}, (clsCs (q, c.c1 S.fresh))[j]? = some v → (flat clsCs (s.rows.set S.turn (q, c.c1 S.fresh)) ++ s.rest)[0 + S.turn * 4 + j]? = some v := fun {j v} hj => by rw [Nat.zero_add]; exact cls_cell hr1 hj _
    have hcost := opCost_le g.op
    have hw1 := h.wf.c1 hc
    have := hw1.q0; have := hw1.q1; have hc0 := hw1.c0; have hc1 := hw1.c1; have hs0 : 0 ≤ c.served := hw1.s0; have hs1 : c.served ≤ 4611686018427387904 := hw1.s1
    (repeat (first|refine zS ?_|refine zR ?_|refine zB ?_|refine zL ?_|refine zC ?_|refine zG (zN ?_)|refine zG (zD 0 rfl rfl rfl rfl ?_)))
    refine VO.go (VO.ldA 0 g.op.cells rfl rfl rfl rfl (VO.go (VO.callV (fun Fr w => cost_spec Fr w g.op) rfl (VO.go (VO.nil ?_)))))
    (repeat (first|refine zS ?_|refine zR ?_|refine zB ?_|refine zL ?_|refine zC ?_|refine zG (zN ?_)|refine zG (zD 0 rfl rfl rfl rfl ?_)))
    refine VO.go (VO.ld 3 rfl rfl rfl (hcell1 (j := 2) rfl) (VO.go (VO.nil ?_)))
    refine VC.condP rfl (fun hlt => ?_) (fun hlt => VC.skip ?_)
    · have hlt : (c.c1 S.fresh).credit < opCost g.op := hlt
      rw [if_pos hlt] at hp
      have hwf := h.wf.turned (c' := c.c1 S.fresh) hw1 (h.wf.qs c (List.mem_of_getElem? hc)) (by omega)
      (repeat (first|refine zS ?_|refine zR ?_|refine zB ?_|refine zL ?_|refine zC ?_|refine zG (zN ?_)|refine zG (zD 0 rfl rfl rfl rfl ?_)))
      refine VO.go (VO.callAt 2 (ψ := fun v H => v = .tuple #[] ∧ H = passH p s.cb s.rows.length s.ccap S.turn) rfl (fun Fr w _ _ _ => pass_spec Fr w (by omega) (by omega)) rfl (fun v L1 ⟨h1, h2⟩ => ⟨_, h2, h1, rfl⟩) ?_)
      rintro _ _ ⟨rfl, rfl⟩
      refine VO.go (VO.nil (VC.exit ⟨(N, _, _), ⟨h.row' hr hwf, hp⟩, Nat.lt_succ_self N, Sub.cons rfl (Sub.cons rfl (Sub.nil _)), ?_⟩))
      refine (Imp.trans Imp.tl (Imp.cons (Imp.of_eq ?_))).ent
      exact schL_row' (c' := c.c1 S.fresh) hr rfl rfl (by rw [hn]) rfl
    · have hlt : ¬ (c.c1 S.fresh).credit < opCost g.op := hlt
      rw [if_neg hlt] at hp
      obtain ⟨hwf2, hq2⟩ := h.wf.c2 hc hq hlt
      (repeat (first|refine zS ?_|refine zR ?_|refine zB ?_|refine zL ?_|refine zC ?_|refine zG (zN ?_)|refine zG (zD 0 rfl rfl rfl rfl ?_)))
      refine VO.go (VO.ld 3 rfl rfl rfl (hcell1 (j := 0) rfl) ?_)
      refine VO.go (VO.callAt (S.turn + 4) (H := ringH q c.q S.cap) (ψ := fun v H => (∃ m, v = .tuple #[.agg (fmc (g, m)).toArray, .bool true]) ∧ H = ringH q q' S.cap) (by simp [hr]) (fun Fr w _ _ _ => Ring.pop_spec Fr w q c.q S.cap) rfl (fun v L1 h1 => by rw [hq] at h1; exact ⟨_, h1.2, h1.1, rfl⟩) ?_)
      rintro _ _ ⟨⟨m', rfl⟩, rfl⟩
      refine VO.go (VO.stA (vs := fmc (g, m')) (cs' := fmc (g, m')) 1 rfl rfl rfl rfl (Nat.le_refl _) rfl rfl rfl (VO.go (VO.nil ?_)))
      (repeat (first|refine zS ?_|refine zR ?_|refine zB ?_|refine zL ?_|refine zC ?_|refine zG (zN ?_)|refine zG (zD 0 rfl rfl rfl rfl ?_)))
      refine VO.go (VO.ld 3 rfl rfl rfl (hcell1 (j := 2) rfl) ?_)
      refine VO.go (VO.sub' rfl rfl ?_ ?_ ?_)
      · dsimp only; omega
      · dsimp only; omega
      refine VO.go (VO.st 3 rfl rfl rfl rfl (hlen _ (by simp) 2 (by omega)) (flat_stc2 hk (by omega) (r' := (q, { c with credit := (c.c1 S.fresh).credit - opCost g.op })) rfl s.rest) rfl (VO.go (VO.nil ?_)))
      have hr2 : ∀ c' : ClsM, (s.rows.set S.turn (q, c'))[S.turn]? = some (q, c') := fun c' => List.getElem?_set_self hk
      have hcell2 : ∀ {c' : ClsM} {j : Nat} {v : Value}, (clsCs (q, c'))[j]? = some v → (flat clsCs (s.rows.set S.turn (q, c')) ++ s.rest)[0 + S.turn * 4 + j]? = some v := fun {c' j v} hj => by rw [Nat.zero_add]; exact cls_cell (hr2 c') hj _
      (repeat (first|refine zS ?_|refine zR ?_|refine zB ?_|refine zL ?_|refine zC ?_|refine zG (zN ?_)|refine zG (zD 0 rfl rfl rfl rfl ?_)))
      refine VO.go (VO.ld 3 rfl rfl rfl (hcell2 (j := 3) rfl) ?_)
      refine VO.go (VO.add rfl rfl ?_ ?_ ?_)
      · dsimp only; omega
      · dsimp only; omega
      refine VO.go (VO.st 3 rfl rfl rfl rfl (hlen _ (by simp) 3 (by omega)) (flat_stc2 hk (by omega) (r' := (q, { c with credit := (c.c1 S.fresh).credit - opCost g.op, served := SchM.served2 (c.served + opCost g.op) })) rfl s.rest) rfl (VO.go (VO.nil ?_)))
      (repeat (first|refine zS ?_|refine zR ?_|refine zB ?_|refine zL ?_|refine zC ?_|refine zG (zN ?_)|refine zG (zD 0 rfl rfl rfl rfl ?_)))
      refine VO.go (VO.ld 3 rfl rfl rfl (hcell2 (j := 0) rfl) ?_)
      refine VO.go (VO.callV' (fun Fr w hF _ hs => Ring.len_spec (q := q') (cap := S.cap) Fr w (hs.at_ (S.turn + 4) (by simp [hk]))) rfl (VO.go (VO.nil ?_)))
      refine VC.condE rfl (fun hz => ?_) (fun hz => VC.skip (VC.exit ?_))
      · have hz : q' = [] := List.eq_nil_of_length_eq_zero (by omega)
        rw [if_pos hz] at hp
        cases hp
        have hcr : (c.c2 S.fresh f q').credit = 0 := by show (if q' = [] then 0 else (c.c1 S.fresh).credit - opCost f.op) = 0; rw [if_pos hz]
        have hwf := h.wf.turned hwf2 hq2 (by rw [hcr]; omega)
        (repeat (first|refine zS ?_|refine zR ?_|refine zB ?_|refine zL ?_|refine zC ?_|refine zG (zN ?_)|refine zG (zD 0 rfl rfl rfl rfl ?_)))
        refine VO.go (VO.st 3 rfl rfl rfl rfl (hlen _ (by simp) 2 (by omega)) (flat_stc2 hk (by omega) (r' := (q, { c with credit := 0, served := SchM.served2 (c.served + opCost f.op) })) rfl s.rest) rfl (VO.go (VO.nil ?_)))
        (repeat (first|refine zS ?_|refine zR ?_|refine zB ?_|refine zL ?_|refine zC ?_|refine zG (zN ?_)|refine zG (zD 0 rfl rfl rfl rfl ?_)))
        refine VO.go (VO.callAt 2 (ψ := fun v H => v = .tuple #[] ∧ H = passH p s.cb s.rows.length s.ccap S.turn) rfl (fun Fr w _ _ _ => pass_spec Fr w (by omega) (by omega)) rfl (fun v L1 ⟨h1, h2⟩ => ⟨_, h2, h1, rfl⟩) ?_)
        rintro _ _ ⟨rfl, rfl⟩
        refine VO.go (VO.nil (VC.exit ?_))
        (repeat (first|refine zS ?_|refine zR ?_|refine zB ?_|refine zL ?_|refine zC ?_|refine zG (zN ?_)|refine zG (zD 0 rfl rfl rfl rfl ?_)))
        refine VO.go (VO.ldA 1 (fmc (f, m')) rfl rfl rfl rfl (VO.go (VO.stA (vs := fmc (f, m')) (cs' := fmc (f, m')) 1 rfl rfl rfl rfl (Nat.le_refl _) rfl rfl rfl (VO.go (VO.nil ?_)))))
        refine VC.ret (Ret.cellTmp 2 3 rfl rfl rfl (RdL.many 1 rfl rfl) rfl ?_ ⟨⟨m', rfl⟩, rfl⟩)
        have e := schL_row (p := p) (S := S) (cA := { c with credit := 0, served := SchM.served2 (c.served + opCost f.op) }) (c' := c.c2 S.fresh f q') (fr := true) hr (by simp only [clsCs]; rw [hcr]; rfl) (show (((S.turn + 1) % s.rows.length : Nat) : Int) = ((S.turn + 1) % S.cls.length : Nat) by rw [hn]) rfl
        exact (Imp.trans Imp.tl (Imp.trans Imp.tl (Imp.trans (Imp.of_eq e) (sch_shut (h.row' hr hwf))))).ent
      · have hz : q' ≠ [] := fun e => hz (by simp [e])
        rw [if_neg hz] at hp
        cases hp
        have hcr : (c.c2 S.fresh f q').credit = (c.c1 S.fresh).credit - opCost f.op := by show (if q' = [] then 0 else (c.c1 S.fresh).credit - opCost f.op) = _; rw [if_neg hz]
        have hwf := h.wf.stays hwf2 hq2
        (repeat (first|refine zS ?_|refine zR ?_|refine zB ?_|refine zL ?_|refine zC ?_|refine zG (zN ?_)|refine zG (zD 0 rfl rfl rfl rfl ?_)))
        refine VO.go (VO.ldA 1 (fmc (f, m')) rfl rfl rfl rfl (VO.go (VO.stA (vs := fmc (f, m')) (cs' := fmc (f, m')) 1 rfl rfl rfl rfl (Nat.le_refl _) rfl rfl rfl (VO.go (VO.nil ?_)))))
        refine VC.ret (Ret.cellTmp 2 3 rfl rfl rfl (RdL.many 1 rfl rfl) rfl ?_ ⟨⟨m', rfl⟩, rfl⟩)
        have e := schL_row (p := p) (S := S) (cA := { c with credit := (c.c1 S.fresh).credit - opCost f.op, served := SchM.served2 (c.served + opCost f.op) }) (c' := c.c2 S.fresh f q') (fr := false) hr (by simp only [clsCs]; rw [hcr]; rfl) (rfl : ((S.turn : Nat) : Int) = (S.turn : Nat)) rfl
        exact (Imp.trans Imp.tl (Imp.trans Imp.tl (Imp.trans (Imp.of_eq e) (sch_shut (h.row' hr hwf))))).ent
end Go.Proofs.YtbbnmgakmcppdaaGreat.Sched
