/- Texts of the proof, put together and shortened. No condition. -/
import Derived.Test.YtkpambabfalaiaaGreatDoorZt1
set_option maxRecDepth 100000
set_option maxHeartbeats 16000000
set_option linter.unusedVariables false
set_option linter.unusedSectionVars false
set_option linter.unusedSimpArgs false
namespace Go.Proofs.YtkpambabfalaiaaGreatDoor
variable (Fr : Nat → Prop) (w : World)
namespace Ring
open Go Vg T Api
attribute [local irreducible] VO VC VA
structure RingS where
 pb : Nat
 pl : List FM
 first : Nat
structure RingOk (q : List FrameM) (cap : Nat) (s : RingS) : Prop where
 len : s.pl.length = cap
 cap0 : 1 ≤ cap
 cap1 : cap ≤ 64
 first : s.first < cap
 qlen : q.length ≤ cap
 at_ : ∀ i, i < q.length → (s.pl[(s.first + i) % cap]?).map Prod.fst = q[i]?
def ringCs (q : List FrameM) (cap : Nat) (s : RingS) : List Value := [.slice (some ⟨s.pb, 0, none⟩) cap cap, .int .i64 s.first, .int .i64 q.length]
def ringL (p : Nat) (q : List FrameM) (cap : Nat) (s : RingS) : List HP := pt p (ringCs q cap s) 224 :: pt s.pb (flat fmc s.pl) 272 :: s.pl.map fun r => mmH r.2
def ringH (p : Nat) (q : List FrameM) (cap : Nat) : HP := hex fun s => hsep (hpure (RingOk q cap s) :: ringL p q cap s)
structure RingIn (Fr : Nat → Prop) (w : World) (p : Nat) (q : List FrameM) (cap : Nat) (s : RingS) : Prop where
 ok : RingOk q cap s
 ring : Blk Fr w p (ringCs q cap s)
 places : Blk Fr w s.pb (flat fmc s.pl)
 mem : ∀ (i : Nat) (r : FM), s.pl[i]? = some r → MIn Fr w r.2
theorem RingIn.of {Fr : Nat → Prop} {w : World} {p : Nat} {q : List FrameM} {cap : Nat} (h : SatIn Fr [ringH p q cap] w) : ∃ s, RingIn Fr w p q cap s := by
 obtain ⟨s, h⟩ := h.ex
 have h := h.sep
 exact ⟨s, h.pure 0 Z, h.blk 1 Z, h.blk 2 Z, fun i r hr => MIn.sat (h.at_ (i + 3) (mm_at hr))⟩
theorem Imp.ring {p : Nat} {q : List FrameM} {cap : Nat} {L M : List HP} (s : RingS) (hs : RingOk q cap s) (h : Imp L (ringL p q cap s ++ M)) : Imp L (ringH p q cap :: M) :=
 Imp.ex s (Imp.sep (Imp.trans h (Imp.app (L := ringL p q cap s) (M := _ :: ringL p q cap s) (Imp.pure hs Imp.refl) Imp.refl)))
theorem none_spec {p : Nat} {a : Addr} {n c : Nat} {cs : List Value} (h : Blk Fr w p (.slice (some a) n c :: cs)) : Tri Tryz.prog 120 [.pointer (some ⟨p, 0, none⟩)] Fr w [] (fun v L => v = .bool false ∧ L = []) := by
 refine TF 12 Tryz.func120 Z yj tabOk Z Z ?_
 refine xbf ?_
 refine VG (VO.split 5 rfl rfl (fun h => by cases h) (fun _ => ?_))
 refine xbg ?_
 exact xbl
theorem len_spec {p : Nat} {q : List FrameM} {cap : Nat} (h : SatIn Fr [ringH p q cap] w) : Tri Tryz.prog 101 [.pointer (some ⟨p, 0, none⟩)] Fr w [] (fun v L => v = .int .i64 q.length ∧ L = []) := by
 obtain ⟨s, h⟩ := RingIn.of h
 have hb := h.ring
 refine TF 9 Tryz.func101 Z yj tabOk Z Z ?_
 refine xbf ?_
 refine VG (VV (fun Fr w hF hs _ => none_spec Fr w (hb.of hF hs)) Z ?_)
 refine zfl ?_
 refine xbo ?_
 exact xbi
theorem RingOk.new (cap : Nat) (h0 : 1 ≤ cap) (h1 : cap ≤ 64) (b : Nat) : RingOk [] cap ⟨b, List.replicate cap fmz, 0⟩ :=
 ⟨by simp, h0, h1, h0, by simp, fun i hi => by simp at hi⟩
theorem new_spec (cap : Nat) (h0 : 1 ≤ cap) (h1 : cap ≤ 64) : Tri Tryz.prog 118 [.int .i64 cap] Fr w [] (fun v L => ∃ p, v = .tuple #[.pointer (some ⟨p, 0, none⟩), .int .i64 0] ∧ L = [ringH p [] cap]) := by
 refine TF 14 Tryz.func118 Z yj tabOk Z Z ?_
 refine zfx ?_
 refine xbf ?_
 refine CP Z (fun h => absurd h yf) (fun _ => CK ?_)
 refine CS (CG (VG (VO.makeSlice cap Z Z Z Z Z Z Z yf ?_ fun b => ?_)))
 ·show 288 * cap ≤ _; omega
 refine VG (VI (LB [.slice (some ⟨b, 0, none⟩) cap cap, .int .i64 0, .int .i64 0] Z Z Z Z Z) (VG (VB (vs := [.slice (some ⟨b, 0, none⟩) cap cap, .int .i64 0, .int .i64 0]) Z fun p => VG (VN ?_))))
 refine CR (Ret.tmp2 2 3 Z Z Z ?_ ⟨p, Z, Z⟩)
 exact (Imp.ring (M := []) ⟨b, List.replicate cap fmz, 0⟩ (RingOk.new cap h0 h1 b) (by
  have : flat fmc (List.replicate cap fmz) = (List.replicate cap T.t272.zs).flatten := (flat_replicate cap fmz).symm
  unfold ringL
  simp only [this, List.map_replicate, List.append_nil]
  refine IP 0 Z (IP 0 Z ?_)
  have : ∀ n : Nat, Imp [] (List.replicate n (mmH fmz.2)) := fun n => by
   induction n with
   | zero => exact Imp.nil
   | succ n ih => exact Imp.mm0 ih
  exact this cap)).ent
end Ring
namespace Sched
open Go Vg T Api Ring
attribute [local irreducible] VO VC VA
structure ClsM where
 q : List FrameM
 quantum : Int
 credit : Int
 served : Int
structure SchM where
 cls : List ClsM
 cap : Nat
 turn : Nat
 fresh : Bool
structure ClsM.Wf (c : ClsM) : Prop where
 q0 : 96 ≤ c.quantum
 q1 : c.quantum ≤ 65536
 c0 : 0 ≤ c.credit
 c1 : c.credit ≤ c.quantum + 95
 s0 : 0 ≤ c.served
 s1 : c.served ≤ 4611686018427387904
structure SchM.Wf (S : SchM) : Prop where
 n0 : 1 ≤ S.cls.length
 n1 : S.cls.length ≤ 4
 cap0 : 1 ≤ S.cap
 cap1 : S.cap ≤ 16
 turn : S.turn < S.cls.length
 cls : ∀ c ∈ S.cls, c.Wf
 qs : ∀ c ∈ S.cls, c.q.length ≤ S.cap
 low : ∀ k c, S.cls[k]? = some c → (k = S.turn → S.fresh = true) → c.credit ≤ 95
abbrev Row := Nat × ClsM
def clsCs (r : Row) : List Value := [.pointer (some ⟨r.1, 0, none⟩), .int .i64 r.2.quantum, .int .i64 r.2.credit, .int .i64 r.2.served]
theorem clsCs_len (r : Row) : (clsCs r).length = 4 := rfl
structure SchS where
 cb : Nat
 ccap : Nat
 rest : List Value
 rows : List Row
structure SchOk (S : SchM) (s : SchS) : Prop where
 wf : S.Wf
 rows : s.rows.map Prod.snd = S.cls
 cap : s.rows.length ≤ s.ccap
def schCs (S : SchM) (s : SchS) : List Value := [.slice (some ⟨s.cb, 0, none⟩) s.rows.length s.ccap, .int .i64 S.turn, .bool S.fresh]
def schL (p : Nat) (S : SchM) (s : SchS) : List HP := pt p (schCs S s) 197 :: pt s.cb (flat clsCs s.rows ++ s.rest) 194 :: s.rows.map fun r => ringH r.1 r.2.q S.cap
def schH (p : Nat) (S : SchM) : HP := hex fun s => hsep (hpure (SchOk S s) :: schL p S s)
structure SchIn (Fr : Nat → Prop) (w : World) (p : Nat) (S : SchM) (s : SchS) : Prop where
 ok : SchOk S s
 sch : Blk Fr w p (schCs S s)
 cls : Blk Fr w s.cb (flat clsCs s.rows ++ s.rest)
 ring : ∀ (k : Nat) (r : Row), s.rows[k]? = some r → SatIn Fr [ringH r.1 r.2.q S.cap] w
theorem SchIn.of {Fr : Nat → Prop} {w : World} {p : Nat} {S : SchM} (h : SatIn Fr [schH p S] w) : ∃ s, SchIn Fr w p S s := by
 obtain ⟨s, h⟩ := h.ex
 have h := h.sep
 exact ⟨s, h.pure 0 Z, h.blk 1 Z, h.blk 2 Z, fun k r hr => h.at_ (k + 3) (by simp [schL, hr])⟩
theorem Imp.sch {p : Nat} {S : SchM} {L M : List HP} (s : SchS) (hs : SchOk S s) (h : Imp L (schL p S s ++ M)) : Imp L (schH p S :: M) :=
 Imp.ex s (Imp.sep (Imp.trans h (Imp.app (L := schL p S s) (M := _ :: schL p S s) (Imp.pure hs Imp.refl) Imp.refl)))
theorem SchOk.len {S : SchM} {s : SchS} (h : SchOk S s) : s.rows.length = S.cls.length := by rw [← h.rows, List.length_map]
theorem SchOk.row {S : SchM} {s : SchS} (h : SchOk S s) {k : Nat} (hk : k < S.cls.length) : ∃ p c, s.rows[k]? = some (p, c) ∧ S.cls[k]? = some c := by
 have hk' : k < s.rows.length := by rw [h.len]; exact hk
 refine ⟨s.rows[k].1, s.rows[k].2, by simp [GE hk'], ?_⟩
 rw [← h.rows, List.getElem?_map, GE hk']; rfl
theorem none_spec {p : Nat} {a : Option Addr} {n c : Nat} {cs : List Value} (h : Blk Fr w p (.slice a n c :: cs)) : Tri Tryz.prog 119 [.pointer (some ⟨p, 0, none⟩)] Fr w [] (fun v L => v = .bool (decide (n = 0)) ∧ L = []) := by
 refine TF 13 Tryz.func119 Z yj tabOk Z Z ?_
 refine xbf ?_
 refine VG (VO.split 5 rfl rfl (fun h => by cases h) (fun _ => ?_))
 refine xbg ?_
 exact CR (Ret.bool 2 rfl rfl (by cases n <;> rfl) ER ⟨rfl, rfl⟩)
theorem has_spec {p n c : Nat} {a : Option Addr} {cs : List Value} (i : Int) (h : Blk Fr w p (.slice a n c :: cs)) : Tri Tryz.prog 100 [.pointer (some ⟨p, 0, none⟩), .int .i64 i] Fr w [] (fun v L => v = .bool (decide (0 ≤ i ∧ i < n)) ∧ L = []) := by
 refine TF 21 Tryz.func100 Z yj tabOk Z Z ?_
 refine xbf ?_
 refine VG (VV (fun Fr w hF hs _ => none_spec Fr w (h.of hF hs)) Z (VG (VO.split 8 Z Z (fun h1 => ?_) (fun h1 => ?_))))
 ·have h1 : n ≠ 0 := by simpa using h1
  refine VG (VO.split 12 Z Z (fun h2 => ?_) (fun h2 => ?_))
  ·have h2 := of_decide_eq_true h2
   refine xbg ?_
   exact CR (Ret.bool 4 Z Z yi ER ⟨rfl, Z⟩)
  ·have h2 := of_decide_eq_false h2
   refine xbf ?_
   exact CR (Ret.bool 4 Z Z yi ER ⟨rfl, Z⟩)
 ·have h1 : n = 0 := by simpa using h1
  refine VG (VY 12 false Z Z ?_)
  refine xbf ?_
  exact CR (Ret.bool 4 Z Z (by symm; apply DF; omega) ER ⟨rfl, Z⟩)
def SchM.at_ (S : SchM) (i : Int) : Option ClsM := if 0 ≤ i then S.cls[i.toNat]? else none
def SchM.lenM (S : SchM) (i : Int) : Int := match S.at_ i with
 | some c => c.q.length
 | none => 0
theorem SchM.at_nat (S : SchM) (k : Nat) : S.at_ k = S.cls[k]? := by simp [SchM.at_]
theorem SchM.at_out {S : SchM} {i : Int} (h : ¬ (0 ≤ i ∧ i < S.cls.length)) : S.at_ i = none := by
 unfold SchM.at_; split
 ·rw [List.getElem?_eq_none]; omega
 ·rfl
theorem cls_cell {rows : List Row} {k j : Nat} {r : Row} {v : Value} (hr : rows[k]? = some r) (hj : (clsCs r)[j]? = some v) (rest : List Value) : (flat clsCs rows ++ rest)[k * 4 + j]? = some v := flat_cell clsCs_len hr hj rest
theorem len_spec {p : Nat} {S : SchM} (i : Int) (h : SatIn Fr [schH p S] w) : Tri Tryz.prog 90 [.pointer (some ⟨p, 0, none⟩), .int .i64 i] Fr w [] (fun v L => v = .int .i64 (S.lenM i) ∧ L = []) := by
 obtain ⟨s, h⟩ := SchIn.of h
 have hb := h.sch
 have hn := h.ok.len
 refine TF 18 Tryz.func90 Z yj tabOk Z Z ?_
 refine xbf ?_
 refine VG (VV (fun Fr w hF hs _ => has_spec Fr w i (hb.of hF hs)) Z (VG (VN ?_)))
 refine VC.condN Z (fun h1 => ?_) (fun h1 => ?_)
 ·have h1 := of_decide_eq_false h1
  refine xbf ?_
  exact CR (Ret.int 4 Z Z (by simp only [SchM.lenM, SchM.at_out (hn ▸ h1)]) ER ⟨rfl, Z⟩)
 ·have h1 := of_decide_eq_true h1
  obtain ⟨k, rfl⟩ := Int.eq_ofNat_of_zero_le h1.1
  have hk : k < S.cls.length := by omega
  obtain ⟨q, c, hr, hc⟩ := h.ok.row hk
  refine CK ?_
  refine xbo ?_
  refine VG (VI (light_idx k Z Z Z Z Z Z yf) ?_)
  refine VG (VD Z Z (RdL.blk h.cls (by rw [Nat.zero_add]; exact cls_cell (j := 0) hr Z _)) ?_)
  refine VG (VV (fun Fr w hF hs _ => Ring.len_spec Fr w ((h.ring k _ hr).of hF hs)) Z (VG (VN ?_)))
  exact CR (Ret.int 4 Z Z (by simp [SchM.lenM, SchM.at_nat, hc]) ER ⟨rfl, Z⟩)
end Sched
namespace Sched
open Go Vg T Api Ring
attribute [local irreducible] VO VC VA
structure IntsIn (Fr : Nat → Prop) (w : World) (a : Option Addr) (qs : List Int) : Prop where
 at_ : qs ≠ [] → ∃ b off, a = some ⟨b, off, none⟩ ∧ Fr b ∧ ∀ i v, qs[i]? = some v → w.cell? ⟨b, off + i, none⟩ = some (.int .i64 v)
def quantumOk (q : Int) : Bool := decide (96 ≤ q) && decide (q ≤ 65536)
def newOk (qs : List Int) (cap : Int) : Bool := decide (1 ≤ qs.length) && decide (qs.length ≤ 4) && decide (1 ≤ cap) && decide (cap ≤ 16) && qs.all quantumOk
def clsNew (q : Int) : ClsM := ⟨[], q, 0, 0⟩
def SchM.new (qs : List Int) (cap : Int) : SchM := ⟨qs.map clsNew, cap.toNat, 0, true⟩
theorem SchM.new_wf {qs : List Int} {cap : Int} (h : newOk qs cap = true) : (SchM.new qs cap).Wf := by
 simp only [newOk, Bool.and_eq_true, decide_eq_true_eq, List.all_eq_true, quantumOk] at h
 obtain ⟨⟨⟨⟨h1, h2⟩, h3⟩, h4⟩, h5⟩ := h
 refine ⟨by simpa [SchM.new] using h1, by simpa [SchM.new] using h2, by simp [SchM.new]; omega, by simp [SchM.new]; omega, by simp [SchM.new]; omega, fun c hc => ?_, fun c hc => ?_, fun k c hc _ => ?_⟩
 ·obtain ⟨q, hq, rfl⟩ := List.mem_map.1 hc
  have := h5 q hq
  exact ⟨this.1, this.2, Int.le_refl _, by show (0 : Int) ≤ q + 95; omega, Int.le_refl _, by show (0 : Int) ≤ _; omega⟩
 ·obtain ⟨q, hq, rfl⟩ := List.mem_map.1 hc
  simp [clsNew]
 ·obtain ⟨q, hq, rfl⟩ := List.mem_map.1 (ME hc)
  show (0 : Int) ≤ 95; omega
abbrev NewS := Nat × Option Addr × Nat × List Row
def newL (p : Nat) (cap : Nat) (x : NewS) : List HP := pt p [.slice x.2.1 x.1 x.2.2.1, .int .i64 0, .bool true] 197 :: slH 194 4 x.2.1 x.1 x.2.2.1 (flat clsCs x.2.2.2) :: x.2.2.2.map fun r => ringH r.1 r.2.q cap
def newR (qs : List Int) (cap : Int) (v : Value) (L : List HP) : Prop := if newOk qs cap = true then ∃ p, v = .tuple #[.pointer (some ⟨p, 0, none⟩), .int .i64 0] ∧ L = [schH p (SchM.new qs cap)] else v = .tuple #[.pointer none, .int .i64 2] ∧ L = []
theorem newR.bad {X : Cx} {e : Env} {L : List HP} {qs : List Int} {cap : Int} (h : newOk qs cap = false) (h4 : Vg.look e 4 = some (.pointer none)) (h5 : Vg.look e 5 = some (.int .i64 2)) : Vg.Ret X Tryz.f99 (newR qs cap) e L :=
 Ret.tmp2 4 5 rfl h4 h5 Imp.nil.ent (by unfold newR; rw [if_neg (by rw [h]; simp)]; exact ⟨rfl, rfl⟩)
structure NewI (qs : List Int) (x : NewS) : Prop where
 le : x.1 ≤ qs.length
 room : x.1 ≤ x.2.2.1
 rows : x.2.2.2.map Prod.snd = (qs.take x.1).map clsNew
 ok : (qs.take x.1).all quantumOk = true
theorem NewI.len {qs : List Int} {x : NewS} (h : NewI qs x) : x.2.2.2.length = x.1 := by
 have := congrArg List.length h.rows
 have h2 := h.le
 simp only [List.length_map, List.length_take] at this
 omega
theorem new_spec (a : Option Addr) (qc : Nat) (qs : List Int) (cap : Int) (hq : IntsIn Fr w a qs) :
  Tri Tryz.prog 99 [.slice a qs.length qc, .int .i64 cap] Fr w [] (newR qs cap) := by
 refine TF 62 Tryz.func99 Z yj tabOk Z Z ?_
 refine xbf ?_
 refine VG (VO.split 13 Z Z (fun h1 => ?_) (fun h1 => VG (VO.split 18 Z Z (fun h2 => ?_) (fun h2 => VG (VO.split 22 Z Z (fun h3 => ?_) (fun h3 => ?_))))))
 ·have h1 := of_decide_eq_true h1
  refine VG (VY 18 true Z Z (VG (VY 22 true Z Z (VG (VN (VC.condT Z ?_))))))
  refine xbf ?_
  refine CR (newR.bad ?_ Z Z)
  have : ¬ (1 ≤ qs.length) := by omega
  simp [newOk, this]
 ·have h2 := of_decide_eq_true h2
  refine VG (VY 22 true Z Z (VG (VN (VC.condT Z ?_))))
  refine xbf ?_
  refine CR (newR.bad ?_ Z Z)
  have : ¬ (qs.length ≤ 4) := by omega
  simp [newOk, this]
 ·have h3 := of_decide_eq_true h3
  refine VG (VN (VC.condT Z ?_))
  refine xbf ?_
  refine CR (newR.bad ?_ Z Z)
  have : ¬ (1 ≤ cap) := by omega
  simp [newOk, this]
 have h1 := of_decide_eq_false h1
 have h2 := of_decide_eq_false h2
 have h3 := of_decide_eq_false h3
 refine xbf ?_
 refine CP Z (fun h4 => ?_) (fun h4 => CK ?_)
 ·refine xbf ?_
  refine CR (newR.bad ?_ Z Z)
  have : ¬ (cap ≤ 16) := by omega
  simp [newOk, this]
 obtain ⟨cp, rfl⟩ := Int.eq_ofNat_of_zero_le (show 0 ≤ cap by omega)
 obtain ⟨b, off, ha, hF, hcell⟩ := hq.at_ (fun e => by rw [e] at h1; simp at h1)
 subst ha
 refine CS (CG (VG (VI (LB [.slice none 0 0, .int .i64 0, .bool true] Z Z Z Z Z) (VG (VB (vs := [.slice none 0 0, .int .i64 0, .bool true]) Z fun p => VG (VN ?_))))))
 refine xbf ?_
 refine VC.loop (σ := NewS) (fun x => [(0, .slice (some ⟨b, off, none⟩) qs.length qc), (1, .int .i64 cp), (4, pV p), (28, .slice (some ⟨b, off, none⟩) qs.length qc), (29, .int .i64 qs.length), (30, .int .i64 x.1)]) (newL p cp) (NewI qs) (fun x => 4 - x.1) (0, none, 0, []) ⟨Nat.zero_le _, NR _, Z, Z⟩ sbZ ?_ ?_
 ·exact (Imp.cons (Imp.slNil Imp.refl)).ent
 rintro ⟨i, a, c, rows⟩ hI
 have hle := hI.le; have hroom := hI.room; have hlen := hI.len; have hrows := hI.rows; have hok := hI.ok
 dsimp only at hle hroom hlen hrows hok ⊢
 refine xbf ?_
 refine CP Z (fun h5 => ?_) (fun h5 => ?_)
 ·have h5 : i < qs.length := by omega
  have hqi := GE h5
  have hmem : qs[i] ∈ qs := List.getElem_mem h5
  have htake : qs.take (i + 1) = qs.take i ++ [qs[i]] := by rw [List.take_add_one, hqi]; rfl
  generalize hqv : qs[i] = q at hqi hmem htake
  have hbad : quantumOk q = false → newOk qs cp = false := fun h => by
   have : qs.all quantumOk = false := List.all_eq_false.2 ⟨q, hmem, by simp [h]⟩
   simp [newOk, this]
  refine CK ?_
  refine xbf ?_
  refine VG (VI (light_idx i Z Z Z Z Z Z h5) ?_)
  refine VG (VD Z Z (RdL.rd (v := .int .i64 q) hF (by show w.cell? ⟨b, off + i * 1, none⟩ = _; rw [Nat.mul_one]; exact hcell i _ hqi)) (VG (VN ?_)))
  refine CS (CS (CG (VG (VO.split 36 Z Z (fun h6 => ?_) (fun h6 => ?_)))))
  ·have h6 := of_decide_eq_true h6
   refine VG (VN (VC.condT Z ?_))
   refine xbf ?_
   refine CR (newR.bad (hbad ?_) Z Z)
   have : ¬ 96 ≤ q := by omega
   simp [quantumOk, this]
  have h6 := of_decide_eq_false h6
  refine VG (VN (CP Z (fun h7 => ?_) (fun h7 => CK ?_)))
  ·refine xbf ?_
   refine CR (newR.bad (hbad ?_) Z Z)
   have : ¬ q ≤ 65536 := by omega
   simp [quantumOk, this]
  refine xbf ?_
  refine VG (VO.call0 Z (fun Fr w => Ring.new_spec Fr w cp yf yf) ?_)
  rintro _ _ ⟨r, rfl, rfl⟩
  refine xbf ?_
  refine VC.condNE Z (fun h => absurd Z h) (fun _ => CK ?_)
  refine CG ?_
  refine VG (VO.ld 1 Z Z Z Z ?_)
  refine VG (VI (LB (pv := [(0, pV r), (1, .int .i64 q)]) (clsCs (r, clsNew q)) Z Z Z Z Z) ?_)
  refine VG (VO.buildSlice (n := 1) (pv := [(0, .agg (clsCs (r, clsNew q)).toArray)]) (clsCs (r, clsNew q)) Z Z Z Z yk (fill_one Z Z Z) fun nb => ?_)
  refine VG (VO.append (m := 1) (news := clsCs (r, clsNew q)) 3 Z Z Z Z Z Z Z (RdRow.pt 0 Z Z Z) Z (by show (i + 1) * 32 ≤ _; omega) yf fun a' c' hc' => ?_)
  refine VG (VO.st 3 Z Z Z Z (by show 0 < 3; omega) Z Z (VG (VN ?_)))
  refine xbf ?_
  refine VG (VP Z Z ?_ ?_ ?_)
  ·omega
  ·omega
  refine xbf ?_
  refine ⟨(i + 1, a', c', rows ++ [(r, clsNew q)]), ⟨h5, hc', ?_, ?_⟩, by dsimp only; omega, sbZ, ?_⟩
  ·dsimp only; rw [List.map_append, hrows, htake, List.map_append]; rfl
  ·dsimp only; rw [htake, List.all_append, hok]; simp [quantumOk]; omega
  ·have e1 : Imp (ringH r [] cp :: rows.map fun r : Row => ringH r.1 r.2.q cp) ((rows ++ [(r, clsNew q)]).map fun r : Row => ringH r.1 r.2.q cp) := by
    rw [List.map_append]
    exact Imp.perm (List.perm_append_comm (l₁ := [ringH r [] cp]))
   have e2 : flat clsCs rows ++ clsCs (r, clsNew q) = flat clsCs (rows ++ [(r, clsNew q)]) := by simp [flat_append, flat_cons, flat_nil]
   rw [e2]
   refine (IP 3 Z ?_).ent
   exact IP 0 Z (Imp.trans Imp.tl e1)
 ·have h5 : i = qs.length := by omega
  subst h5
  have hnew : newOk qs cp = true := by
   rw [List.take_length] at hok
   simp only [newOk, hok, Bool.and_true, Bool.and_eq_true, decide_eq_true_eq]
   omega
  refine CX ?_
  refine xbf ?_
  refine VC.opn 1 Z (HOpn.sl _ _ _ _ _ _) fun x hx => ?_
  obtain ⟨hx1, hx2, hx3⟩ := hx
  cases x with
  | none => exact absurd hx3.2.1 yf
  | some y =>
   obtain ⟨cb, rest⟩ := y
   obtain ⟨rfl, hx3⟩ := hx3
   refine CR (Ret.tmp2 4 5 Z Z Z (L' := [schH p (SchM.new qs cp)]) ?_ (by unfold newR; rw [if_pos hnew]; exact ⟨p, Z, Z⟩))
   rw [List.take_length] at hrows
   refine (Imp.sch (M := []) ⟨cb, c, rest, rows⟩ ⟨SchM.new_wf hnew, hrows, by dsimp only; omega⟩ ?_).ent
   have e : schCs (SchM.new qs cp) ⟨cb, c, rest, rows⟩ = [.slice (some ⟨cb, 0, none⟩) qs.length c, .int .i64 0, .bool true] := by simp [schCs, SchM.new, hlen]
   unfold schL
   rw [e]
   refine IP 1 Z ?_
   exact Imp.of_eq (by simp [newL, SchM.new])
end Sched
namespace Sched
open Go Vg T Api Ring
attribute [local irreducible] VO VC VA
def SchM.qs (S : SchM) : List (List FrameM) := S.cls.map ClsM.q
end Sched
namespace Conf
open Go Api Vg T Sched
attribute [local irreducible] VO VC VA
def intCs (qs : List Int) : List Value := qs.map fun q => .int .i64 q
def intH (a : Option Addr) (cap : Nat) (qs : List Int) : HP := slH 3 1 a qs.length cap (intCs qs)
theorem intCs_len (qs : List Int) : (intCs qs).length = qs.length := by simp [intCs]
theorem intCs_one (qs : List Int) : (intCs qs).all Value.oneCell' = true := by
 rw [List.all_eq_true]
 intro v hv
 obtain ⟨q, _, rfl⟩ := List.mem_map.1 hv
 rfl
theorem cell_of_keep {w w' : World} {b off : Nat} {v : Value} (hb : w'.heap[b]? = w.heap[b]?) (h : w.cell? ⟨b, off, none⟩ = some v) : w'.cell? ⟨b, off, none⟩ = some v := by
 rw [← h]; unfold World.cell?; rw [hb]
theorem ints_of {X : Cx} {a : Option Addr} {qs : List Int} (h : IntsIn X.Fr X.w0 a qs) {Fr' : Nat → Prop} (hF : ∀ b, X.Fr b → Fr' b) {w : World} {L : List HP} (hw : St X L w) : IntsIn Fr' w a qs := ⟨fun hne => by
 obtain ⟨b, off, h1, h2, h3⟩ := h.at_ hne
 exact ⟨b, off, h1, hF b h2, fun i v hv => cell_of_keep (hw.keep.block b h2) (h3 i v hv)⟩⟩
theorem ints_sl {Fr : Nat → Prop} {w : World} {a : Option Addr} {c : Nat} {qs : List Int} (h : SatIn Fr [intH a c qs] w) : IntsIn Fr w a qs := by
 refine ⟨fun hne => ?_⟩
 obtain ⟨F, ⟨i, G, rfl, hs, rfl⟩, hF⟩ := h
 obtain ⟨hc, ⟨rfl, h0, _, _⟩ | ⟨b, rest, rfl, rfl, hn, hr, hh⟩⟩ := hs
 ·exact absurd (List.eq_nil_of_length_eq_zero h0) hne
 ·refine ⟨b, 0, Z, hF b yb, fun i v hv => ?_⟩
  rw [Nat.zero_add, cell_of_row w b i (intCs qs ++ rest).toArray _ _ hh]
  have hi := (List.getElem?_eq_some_iff.1 hv).1
  have : (intCs qs ++ rest)[i]? = some (.int .i64 v) := by
   rw [List.getElem?_append_left (by simpa [intCs] using hi), intCs, List.getElem?_map, hv]; rfl
  simpa using this
theorem ints_take {Fr : Nat → Prop} {w : World} {a : Option Addr} {qs : List Int} (h : IntsIn Fr w a qs) (n : Nat) : IntsIn Fr w a (qs.take n) := by
 refine ⟨fun hne => ?_⟩
 obtain ⟨b, off, h1, h2, h3⟩ := h.at_ (fun e => hne (by rw [e]; simp))
 refine ⟨b, off, h1, h2, fun i v hv => h3 i v ?_⟩
 rw [List.getElem?_take] at hv
 split at hv
 ·exact hv
 ·cases hv
def AdOk (_ : Option Addr) : Prop := True
structure ConfM where
 nodes : Int
 chain : Int
 clients : Int
 qs : List Int
 queue : Int
 window : Int
 reads : Int
 link : Int
 patience : Int
 timeout : Int
 budget : Int
 refill : Int
deriving DecidableEq
def ConfM.cells (c : ConfM) (a : Option Addr) (cap : Nat) : List Value := [.int .i64 c.nodes, .int .i64 c.chain, .int .i64 c.clients, .slice a c.qs.length cap, .int .i64 c.queue, .int .i64 c.window, .int .i64 c.reads, .int .i64 c.link, .int .i64 c.patience, .int .i64 c.timeout, .int .i64 c.budget, .int .i64 c.refill]
def near (x lo hi : Int) : Int := if (if hi < x then hi else x) < lo then lo else if hi < x then hi else x
theorem near_in {x lo hi : Int} (h : lo ≤ hi) : lo ≤ near x lo hi ∧ near x lo hi ≤ hi := by
 unfold near; split <;> split <;> omega
theorem near_same {x lo hi : Int} (h1 : lo ≤ x) (h2 : x ≤ hi) : near x lo hi = x := by
 unfold near; rw [if_neg yf, if_neg yf]
theorem near_alt (x lo hi : Int) : (if lo < (if hi < x then hi else x) then (if hi < x then hi else x) else lo) = near x lo hi := by
 unfold near; split <;> split <;> omega
def qNear (q : Int) : Int := near q 96 65536
def qFirst (qs : List Int) : List Int := if qs.take 4 = [] then [96] else qs.take 4
def qFit (qs : List Int) : List Int := (qFirst qs).map qNear
def fitM (c : ConfM) : ConfM := ⟨near c.nodes 1 6, near c.chain 1 (near c.nodes 1 6), near c.clients 1 6, qFit c.qs, near c.queue 1 16, near c.window 1 16, near c.reads 1 16, near c.link 4 64, near c.patience 4 64, near c.timeout 4 64, near c.budget 0 16, near c.refill 1 1099511627776⟩
theorem qFirst_len (qs : List Int) : 1 ≤ (qFirst qs).length ∧ (qFirst qs).length ≤ 4 := by
 unfold qFirst
 split
 ·simp
 ·rename_i h
  have := List.length_take_le 4 qs
  refine ⟨?_, this⟩
  cases hq : qs.take 4 with
  | nil => exact absurd hq h
  | cons _ _ => simp
theorem qFit_len (qs : List Int) : 1 ≤ (qFit qs).length ∧ (qFit qs).length ≤ 4 := by
 have := qFirst_len qs
 simpa [qFit] using this
theorem clamp_spec (x lo hi : Int) : Tri Tryz.prog 84 [.int .i64 x, .int .i64 lo, .int .i64 hi] Fr w [] (fun v L => v = .int .i64 (near x lo hi) ∧ L = []) := by
 refine TF 12 Tryz.func84 Z yj tabOk Z Z ?_
 refine xbf ?_
 exact CR (Ret.int 6 Z Z Z ER ⟨rfl, Z⟩)
theorem bring_spec {b off t : Nat} {cs : List Value} {x : Int} (lo hi : Int) (hx : cs[off]? = some (.int .i64 x)) :
  Tri Tryz.prog 83 [.pointer (some ⟨b, off, none⟩), .int .i64 lo, .int .i64 hi] Fr w [pt b cs t] (fun v L => v = .tuple #[] ∧ L = [pt b (cs.set off (.int .i64 (near x lo hi))) t]) := by
 refine TF 14 Tryz.func83 Z yj tabOk Z Z ?_
 refine CG ?_
 refine VG (VO.ld 0 Z Z Z hx ?_)
 refine VG (VO.callV (fun Fr w => clamp_spec Fr w x lo hi) Z ?_)
 refine VG (VO.st 0 Z Z Z Z (List.getElem?_eq_some_iff.1 hx).1 Z Z (VG (VN ?_)))
 exact Ret.void Z ER ⟨rfl, Z⟩
theorem clone_spec (a : Option Addr) (cap : Nat) (qs : List Int) (hq : IntsIn Fr w a qs) (hl : qs.length ≤ 1000) : Tri Tryz.prog 85 [.slice a qs.length cap] Fr w []
  (fun v L => ∃ a' cap', v = .slice a' qs.length cap' ∧ L = [intH a' cap' qs]) := by
 refine TF 8 Tryz.func85 Z yj tabOk Z Z ?_
 cases ha : a with
 | none =>
  have hnil : qs = [] := by
   cases hqs : qs with
   | nil => rfl
   | cons x xs =>
    obtain ⟨b, off, h1, _⟩ := hq.at_ (by rw [hqs]; simp)
    rw [ha] at h1; cases h1
  subst hnil
  refine xbf ?_
  refine zfp ?_
  exact CR (Ret.tmp 2 Z Z (Imp.slNil Imp.refl).ent ⟨none, 0, Z, Z⟩)
 | some ad =>
  refine zfl ?_
  refine xbf ?_
  refine VG (VO.buildSlice (n := 0) (pv := []) [] Z Z Z Z yk Z fun nb => ?_)
  refine VO.ent (L' := [slH 3 1 (some ⟨nb, 0, none⟩) 0 0 []]) (Imp.sl (cs := []) (rest := []) Z (NR _) Z Imp.refl).ent ?_
  refine VG (VO.append (m := qs.length) (news := intCs qs) 0 Z Z Z Z Z Z Z ?_ (intCs_one qs) (by show (0 + qs.length) * 8 ≤ _; omega) yf fun a' c' hc' => VG (VN ?_))
  ·by_cases hne : qs = []
   ·subst hne
    exact ⟨rfl, .inl ⟨some ad, cap, Z, Z⟩⟩
   ·obtain ⟨b, off, h1, h2, h3⟩ := hq.at_ hne
    rw [ha] at h1
    cases h1
    refine ⟨by simp [intCs], .inr ⟨b, off, cap, Z, fun w' hw' j v hv => ?_⟩⟩
    rw [intCs, List.getElem?_map] at hv
    cases hj : qs[j]? with
    | none => rw [hj] at hv; cases hv
    | some x =>
     rw [hj] at hv
     obtain rfl := Option.some.inj hv
     exact cell_of_keep (hw'.keep.block b h2) (h3 j x hj)
  ·exact CR (Ret.tmp 2 Z Z (Imp.of_eq (by rw [Nat.zero_add]; rfl)).ent ⟨a', c', by rw [Nat.zero_add], Z⟩)
theorem equal_spec (a b : Option Addr) (ca cb : Nat) (qs ps : List Int) (hq : IntsIn Fr w a qs) (hp : IntsIn Fr w b ps) (hl : ps.length ≤ 1000) : Tri Tryz.prog 47 [.slice a qs.length ca, .slice b ps.length cb] Fr w []
  (fun v L => v = .bool (decide (qs = ps)) ∧ L = []) := by
 refine TF 26 Tryz.func47 Z yj tabOk Z Z ?_
 refine xbf ?_
 refine VC.condNE Z (fun h1 => ?_) (fun h1 => CK ?_)
 ·refine xbf ?_
  exact CR (Ret.bool 4 Z Z (by symm; apply DF; intro e; exact h1 yp) ER ⟨rfl, Z⟩)
 have h1 : qs.length = ps.length := by omega
 refine xbf ?_
 refine VC.loop (σ := Nat) (fun i => [(0, .slice a qs.length ca), (1, .slice b ps.length cb), (12, .int .i64 qs.length), (13, .int .i64 i)]) (fun _ => []) (fun i => i ≤ qs.length ∧ ∀ j, j < i → qs[j]? = ps[j]?) (fun i => qs.length - i) 0 ⟨Nat.zero_le _, fun j hj => by omega⟩ sbZ ER ?_
 rintro i ⟨hi, hall⟩
 refine xbf ?_
 refine CP Z (fun h2 => CK ?_) (fun h2 => CX ?_)
 ·have hi1 : i < qs.length := by omega
  have hi2 : i < ps.length := by omega
  obtain ⟨qb, qo, rfl, hFq, hcq⟩ := hq.at_ (fun e => by rw [e] at hi1; simp at hi1)
  obtain ⟨pb, po, rfl, hFp, hcp⟩ := hp.at_ (fun e => by rw [e] at hi2; simp at hi2)
  have e1 := GE hi1
  have e2 := GE hi2
  generalize qs[i] = x at e1
  generalize ps[i] = y at e2
  refine xca ?_
  refine xcb ?_
  refine CS (CD (ts 0 9 .nil) yj yl ?_)
  refine xbn ?_
  refine AG (AI Z (light_idx i Z Z Z Z Z Z hi1) ?_)
  refine AG (VA.load Z Z Z (RdL.rd (v := .int .i64 x) hFq (by show w.cell? ⟨qb, qo + i * 1, none⟩ = _; rw [Nat.mul_one]; exact hcq i x e1)) ?_)
  refine xbn ?_
  refine AG (AI Z (light_idx i Z Z Z Z Z Z hi2) ?_)
  refine AG (VA.load Z Z Z (RdL.rd (v := .int .i64 y) hFp (by show w.cell? ⟨pb, po + i * 1, none⟩ = _; rw [Nat.mul_one]; exact hcp i y e2)) ?_)
  refine xbn ?_
  refine VC.condNE Z (fun h3 => ?_) (fun h3 => CK ?_)
  ·refine xbf ?_
   exact CR (Ret.bool 4 Z Z (by symm; apply DF; intro e; rw [e, e2] at e1; exact h3 (Option.some.inj e1).symm) ER ⟨rfl, Z⟩)
  refine zfh ?_
  refine ⟨i + 1, ⟨hi1, fun j hj => ?_⟩, by dsimp only; omega, sbZ, ER⟩
  by_cases hji : j = i
  ·subst hji; rw [e1, e2, h3]
  ·exact hall j yf
 ·have hi1 : i = qs.length := by omega
  subst hi1
  refine xbf ?_
  refine CR (Ret.bool 4 Z Z (by
   symm; apply DT
   apply List.ext_getElem?
   intro j
   by_cases hj : j < qs.length
   ·exact hall j hj
   ·rw [List.getElem?_eq_none yf, List.getElem?_eq_none yf]) ER ⟨rfl, rfl⟩)
def mixQ (qs : List Int) (i : Nat) : List Int := (qs.take i).map qNear ++ qs.drop i
theorem mixQ_len (qs : List Int) (i : Nat) : (mixQ qs i).length = qs.length := by simp [mixQ]; omega
theorem mixQ_at {qs : List Int} {i : Nat} {x : Int} (h : qs[i]? = some x) : (mixQ qs i)[i]? = some x := by
 have hi := (List.getElem?_eq_some_iff.1 h).1
 rw [mixQ, List.getElem?_append_right yg]
 simp only [List.length_map, List.length_take, List.getElem?_drop]
 rw [← h]; congr 1; omega
theorem mixQ_set {qs : List Int} {i : Nat} {x : Int} (h : qs[i]? = some x) : (mixQ qs i).set i (qNear x) = mixQ qs (i + 1) := by
 have hi := (List.getElem?_eq_some_iff.1 h).1
 rw [mixQ, mixQ, List.take_add_one, h, List.set_append_right _ _ yg]
 have h2 : qs.drop i = x :: qs.drop (i + 1) := by
  rw [List.drop_eq_getElem_cons hi, (List.getElem?_eq_some_iff.1 h).2]
 rw [h2]
 have h3 : i - ((qs.take i).map qNear).length = 0 := by simp; omega
 rw [h3]; simp
theorem fit_spec (c : ConfM) (a : Option Addr) (cap : Nat) (hq : IntsIn Fr w a c.qs) (ha : AdOk a) (hcap : c.qs.length ≤ cap) : Tri Tryz.prog 46 [.agg (c.cells a cap).toArray] Fr w []
  (fun v L => ∃ a' cap', AdOk a' ∧ (fitM c).qs.length ≤ cap' ∧ v = .agg ((fitM c).cells a' cap').toArray ∧ L = [intH a' cap' (fitM c).qs]) := by
 refine TF 69 Tryz.func46 Z yj tabOk Z Z ?_
 refine CS (CG (VG (VB (vs := c.cells a cap) Z fun x => VG (VO.alloc Z fun r => VG (VN ?_)))))
 obtain ⟨c0, c1, c2, qs, c4, c5, c6, c7, c8, c9, c10, c11⟩ := c
 dsimp only at hq hcap
 refine xcb ?_
 refine xcc ?_
 refine VG (VO.callAtT 1 (ψ := fun v H => H = pt x [.int .i64 (near c0 1 6), .int .i64 c1, .int .i64 c2, .slice a qs.length cap, .int .i64 c4, .int .i64 c5, .int .i64 c6, .int .i64 c7, .int .i64 c8, .int .i64 c9, .int .i64 c10, .int .i64 c11] 24) Z Z (fun Fr w _ _ _ => bring_spec Fr w _ _ Z) Z (fun v L1 h => ⟨_, h.2, Z⟩) ?_)
 rintro _ _ rfl
 refine zfm ?_
 refine VG (VO.ld 1 Z Z Z Z ?_)
 refine VG (VO.callAtT 1 (ψ := fun v H => H = pt x [.int .i64 (near c0 1 6), .int .i64 (near c1 1 (near c0 1 6)), .int .i64 c2, .slice a qs.length cap, .int .i64 c4, .int .i64 c5, .int .i64 c6, .int .i64 c7, .int .i64 c8, .int .i64 c9, .int .i64 c10, .int .i64 c11] 24) Z Z (fun Fr w _ _ _ => bring_spec Fr w _ _ Z) Z (fun v L1 h => ⟨_, h.2, Z⟩) ?_)
 rintro _ _ rfl
 refine zfm ?_
 refine VG (VO.callAtT 1 (ψ := fun v H => H = pt x [.int .i64 (near c0 1 6), .int .i64 (near c1 1 (near c0 1 6)), .int .i64 (near c2 1 6), .slice a qs.length cap, .int .i64 c4, .int .i64 c5, .int .i64 c6, .int .i64 c7, .int .i64 c8, .int .i64 c9, .int .i64 c10, .int .i64 c11] 24) Z Z (fun Fr w _ _ _ => bring_spec Fr w _ _ Z) Z (fun v L1 h => ⟨_, h.2, Z⟩) ?_)
 rintro _ _ rfl
 refine xcd ?_
 have ht4 := List.length_take_le 4 qs
 refine CS (CG (VG (VO.ld 1 Z Z Z Z (VG (VO.ld 1 Z Z Z Z ?_)))))
 refine VG (VI (light_head (qs.take 4).length Z Z Z Z Z (by rw [List.length_take]; split <;> omega) (by rw [List.length_take]; omega)) ?_)
 refine VG (VK (Lc := []) (fun Fr w hF hs _ => clone_spec Fr w a cap (qs.take 4) (ints_take (ints_of hq hF hs) 4) yf) Z Z ?_)
 rintro _ _ ⟨a1, cap1, rfl, rfl⟩
 refine VG (VO.st 2 Z Z Z Z yq Z Z (VG (VN ?_)))
 have hf1 := qFirst_len qs
 refine VC.meet (σ := Nat × Nat × List Value) (fun _ => [(1, pV x), (2, pV r), (3, .func (.func 83) #[] #[])])
  (fun y => [pt y.1 (intCs (qFirst qs) ++ y.2.2) 3, pt r T.t24.zs 24, pt x [.int .i64 (near c0 1 6), .int .i64 (near c1 1 (near c0 1 6)), .int .i64 (near c2 1 6), .slice (some ⟨y.1, 0, none⟩) (qFirst qs).length y.2.1, .int .i64 c4, .int .i64 c5, .int .i64 c6, .int .i64 c7, .int .i64 c8, .int .i64 c9, .int .i64 c10, .int .i64 c11] 24]) (fun y => (qFirst qs).length ≤ y.2.1 ∧ (intCs (qFirst qs) ++ y.2.2).length = y.2.1) ?_ ?_
 ·refine CS (CG (VG (VO.ld 2 Z Z Z Z (VG (VN ?_)))))
  refine CE Z (fun hz => ?_) (fun hz => ?_)
  ·have hz : qs.take 4 = [] := List.eq_nil_of_length_eq_zero yf
   have hqf : qFirst qs = [96] := by unfold qFirst; rw [if_pos hz]
   refine CG (VG (VO.buildSlice (n := 1) (pv := [(0, .int .i64 96)]) [.int .i64 96] Z Z Z Z yk Z fun nb => ?_))
   refine VG (VO.st 3 Z Z Z Z yq Z Z (VG (VN ?_)))
   refine ⟨(nb, 1, []), ⟨by rw [hqf]; exact NR 1, by rw [hqf]; rfl⟩, sbZ, ?_⟩
   rw [hqf]
   exact (Imp.cons Imp.tl).ent
  ·have hz : ¬ qs.take 4 = [] := fun e => hz (by rw [e]; rfl)
   have hqf : qFirst qs = qs.take 4 := by unfold qFirst; rw [if_neg hz]
   refine VC.opn 0 Z (HOpn.sl 3 1 a1 (qs.take 4).length cap1 (intCs (qs.take 4))) fun y hy => CK ?_
   obtain ⟨h1, h2, h3⟩ := hy
   cases y with
   | none =>
    obtain ⟨_, h5, _⟩ := h3
    exact absurd (List.eq_nil_of_length_eq_zero h5) hz
   | some y =>
    obtain ⟨b1, rest⟩ := y
    obtain ⟨rfl, h4⟩ := h3
    refine ⟨(b1, cap1, rest), ⟨by rw [hqf]; exact h2, by rw [hqf]; simpa using h4⟩, sbZ, ?_⟩
    rw [hqf]
    exact ER
 rintro ⟨qb, qcap, rest⟩ ⟨hqc, hrest⟩
 dsimp only at hqc hrest ⊢
 refine xbw ?_
 refine VC.loop (σ := Nat) (fun i => [(1, pV x), (2, pV r), (3, .func (.func 83) #[] #[]), (33, .int .i64 (qFirst qs).length), (34, .int .i64 i)])
  (fun i => [pt qb (intCs (mixQ (qFirst qs) i) ++ rest) 3, pt r T.t24.zs 24, pt x [.int .i64 (near c0 1 6), .int .i64 (near c1 1 (near c0 1 6)), .int .i64 (near c2 1 6), .slice (some ⟨qb, 0, none⟩) (qFirst qs).length qcap, .int .i64 c4, .int .i64 c5, .int .i64 c6, .int .i64 c7, .int .i64 c8, .int .i64 c9, .int .i64 c10, .int .i64 c11] 24]) (fun i => i ≤ (qFirst qs).length) (fun i => 4 - i) 0 (Nat.zero_le _) sbZ ER ?_
 intro i hi
 refine xbf ?_
 refine CP Z (fun h1 => CK ?_) (fun h1 => CX ?_)
 ·have hi2 : i < (qFirst qs).length := by omega
  have hy := GE hi2
  generalize (qFirst qs)[i] = y at hy
  have hc : (intCs (mixQ (qFirst qs) i) ++ rest)[0 + i * 1]? = some (.int .i64 y) := by
   rw [Nat.zero_add, Nat.mul_one, List.getElem?_append_left yr, intCs, List.getElem?_map, mixQ_at hy]; rfl
  have hset : (intCs (mixQ (qFirst qs) i) ++ rest).set (0 + i * 1) (.int .i64 (near y 96 65536)) = intCs (mixQ (qFirst qs) (i + 1)) ++ rest := by
   rw [Nat.zero_add, Nat.mul_one, List.set_append_left _ _ yr, intCs, ← mixQ_set hy, intCs, List.map_set]; rfl
  refine xbw ?_
  refine xbp ?_
  refine VG (VO.callAtT 0 (ψ := fun v H => H = pt qb (intCs (mixQ (qFirst qs) (i + 1)) ++ rest) 3) Z Z (fun Fr w _ _ _ => bring_spec Fr w _ _ hc) Z (fun v L1 h => ⟨_, h.2, by rw [hset]⟩) ?_)
  rintro _ _ rfl
  refine xcd ?_
  refine zfh ?_
  exact ⟨i + 1, hi2, by dsimp only; omega, sbZ, ER⟩
 have hi2 : i = (qFirst qs).length := by omega
 subst hi2
 refine xcc ?_
 refine VG (VO.callAtT 2 (ψ := fun v H => H = pt x [.int .i64 (near c0 1 6), .int .i64 (near c1 1 (near c0 1 6)), .int .i64 (near c2 1 6), .slice (some ⟨qb, 0, none⟩) (qFirst qs).length qcap, .int .i64 (near c4 1 16), .int .i64 c5, .int .i64 c6, .int .i64 c7, .int .i64 c8, .int .i64 c9, .int .i64 c10, .int .i64 c11] 24) Z Z (fun Fr w _ _ _ => bring_spec Fr w _ _ Z) Z (fun v L1 h => ⟨_, h.2, Z⟩) ?_)
 rintro _ _ rfl
 refine zfm ?_
 refine VG (VO.callAtT 2 (ψ := fun v H => H = pt x [.int .i64 (near c0 1 6), .int .i64 (near c1 1 (near c0 1 6)), .int .i64 (near c2 1 6), .slice (some ⟨qb, 0, none⟩) (qFirst qs).length qcap, .int .i64 (near c4 1 16), .int .i64 (near c5 1 16), .int .i64 c6, .int .i64 c7, .int .i64 c8, .int .i64 c9, .int .i64 c10, .int .i64 c11] 24) Z Z (fun Fr w _ _ _ => bring_spec Fr w _ _ Z) Z (fun v L1 h => ⟨_, h.2, Z⟩) ?_)
 rintro _ _ rfl
 refine zfm ?_
 refine VG (VO.callAtT 2 (ψ := fun v H => H = pt x [.int .i64 (near c0 1 6), .int .i64 (near c1 1 (near c0 1 6)), .int .i64 (near c2 1 6), .slice (some ⟨qb, 0, none⟩) (qFirst qs).length qcap, .int .i64 (near c4 1 16), .int .i64 (near c5 1 16), .int .i64 (near c6 1 16), .int .i64 c7, .int .i64 c8, .int .i64 c9, .int .i64 c10, .int .i64 c11] 24) Z Z (fun Fr w _ _ _ => bring_spec Fr w _ _ Z) Z (fun v L1 h => ⟨_, h.2, Z⟩) ?_)
 rintro _ _ rfl
 refine zfm ?_
 refine VG (VO.callAtT 2 (ψ := fun v H => H = pt x [.int .i64 (near c0 1 6), .int .i64 (near c1 1 (near c0 1 6)), .int .i64 (near c2 1 6), .slice (some ⟨qb, 0, none⟩) (qFirst qs).length qcap, .int .i64 (near c4 1 16), .int .i64 (near c5 1 16), .int .i64 (near c6 1 16), .int .i64 (near c7 4 64), .int .i64 c8, .int .i64 c9, .int .i64 c10, .int .i64 c11] 24) Z Z (fun Fr w _ _ _ => bring_spec Fr w _ _ Z) Z (fun v L1 h => ⟨_, h.2, Z⟩) ?_)
 rintro _ _ rfl
 refine zfm ?_
 refine VG (VO.callAtT 2 (ψ := fun v H => H = pt x [.int .i64 (near c0 1 6), .int .i64 (near c1 1 (near c0 1 6)), .int .i64 (near c2 1 6), .slice (some ⟨qb, 0, none⟩) (qFirst qs).length qcap, .int .i64 (near c4 1 16), .int .i64 (near c5 1 16), .int .i64 (near c6 1 16), .int .i64 (near c7 4 64), .int .i64 (near c8 4 64), .int .i64 c9, .int .i64 c10, .int .i64 c11] 24) Z Z (fun Fr w _ _ _ => bring_spec Fr w _ _ Z) Z (fun v L1 h => ⟨_, h.2, Z⟩) ?_)
 rintro _ _ rfl
 refine zfm ?_
 refine VG (VO.callAtT 2 (ψ := fun v H => H = pt x [.int .i64 (near c0 1 6), .int .i64 (near c1 1 (near c0 1 6)), .int .i64 (near c2 1 6), .slice (some ⟨qb, 0, none⟩) (qFirst qs).length qcap, .int .i64 (near c4 1 16), .int .i64 (near c5 1 16), .int .i64 (near c6 1 16), .int .i64 (near c7 4 64), .int .i64 (near c8 4 64), .int .i64 (near c9 4 64), .int .i64 c10, .int .i64 c11] 24) Z Z (fun Fr w _ _ _ => bring_spec Fr w _ _ Z) Z (fun v L1 h => ⟨_, h.2, Z⟩) ?_)
 rintro _ _ rfl
 refine zfm ?_
 refine VG (VO.callAtT 2 (ψ := fun v H => H = pt x [.int .i64 (near c0 1 6), .int .i64 (near c1 1 (near c0 1 6)), .int .i64 (near c2 1 6), .slice (some ⟨qb, 0, none⟩) (qFirst qs).length qcap, .int .i64 (near c4 1 16), .int .i64 (near c5 1 16), .int .i64 (near c6 1 16), .int .i64 (near c7 4 64), .int .i64 (near c8 4 64), .int .i64 (near c9 4 64), .int .i64 (near c10 0 16), .int .i64 c11] 24) Z Z (fun Fr w _ _ _ => bring_spec Fr w _ _ Z) Z (fun v L1 h => ⟨_, h.2, Z⟩) ?_)
 rintro _ _ rfl
 refine zfm ?_
 refine VG (VO.callAtT 2 (ψ := fun v H => H = pt x [.int .i64 (near c0 1 6), .int .i64 (near c1 1 (near c0 1 6)), .int .i64 (near c2 1 6), .slice (some ⟨qb, 0, none⟩) (qFirst qs).length qcap, .int .i64 (near c4 1 16), .int .i64 (near c5 1 16), .int .i64 (near c6 1 16), .int .i64 (near c7 4 64), .int .i64 (near c8 4 64), .int .i64 (near c9 4 64), .int .i64 (near c10 0 16), .int .i64 (near c11 1 1099511627776)] 24) Z Z (fun Fr w _ _ _ => bring_spec Fr w _ _ Z) Z (fun v L1 h => ⟨_, h.2, Z⟩) ?_)
 rintro _ _ rfl
 refine xcd ?_
 have hmix : mixQ (qFirst qs) (qFirst qs).length = qFit qs := by simp [mixQ, qFit]
 have hql : (qFirst qs).length = (qFit qs).length := by simp [qFit]
 rw [hmix]
 refine CS (CG (VG (VL 2 [.int .i64 (near c0 1 6), .int .i64 (near c1 1 (near c0 1 6)), .int .i64 (near c2 1 6), .slice (some ⟨qb, 0, none⟩) (qFirst qs).length qcap, .int .i64 (near c4 1 16), .int .i64 (near c5 1 16), .int .i64 (near c6 1 16), .int .i64 (near c7 4 64), .int .i64 (near c8 4 64), .int .i64 (near c9 4 64), .int .i64 (near c10 0 16), .int .i64 (near c11 1 1099511627776)] Z Z Z Z ?_)))
 refine VG (VT (vs := [.int .i64 (near c0 1 6), .int .i64 (near c1 1 (near c0 1 6)), .int .i64 (near c2 1 6), .slice (some ⟨qb, 0, none⟩) (qFirst qs).length qcap, .int .i64 (near c4 1 16), .int .i64 (near c5 1 16), .int .i64 (near c6 1 16), .int .i64 (near c7 4 64), .int .i64 (near c8 4 64), .int .i64 (near c9 4 64), .int .i64 (near c10 0 16), .int .i64 (near c11 1 1099511627776)]) (cs' := [.int .i64 (near c0 1 6), .int .i64 (near c1 1 (near c0 1 6)), .int .i64 (near c2 1 6), .slice (some ⟨qb, 0, none⟩) (qFirst qs).length qcap, .int .i64 (near c4 1 16), .int .i64 (near c5 1 16), .int .i64 (near c6 1 16), .int .i64 (near c7 4 64), .int .i64 (near c8 4 64), .int .i64 (near c9 4 64), .int .i64 (near c10 0 16), .int .i64 (near c11 1 1099511627776)]) 1 Z Z Z Z (NR _) Z Z Z (VG (VN ?_)))
 refine CR (Ret.cell 2 Z Z Z (RdL.many 1 Z Z) (L' := [intH (some ⟨qb, 0, none⟩) qcap (qFit qs)]) ?_ ⟨some ⟨qb, 0, none⟩, qcap, trivial, by show (qFit qs).length ≤ _; omega, ?_, Z⟩)
 ·refine (Imp.sl (b := qb) (rest := rest) (by rw [intCs_len, Nat.mul_one]) yf (by rw [← hrest, Nat.mul_one, List.length_append, List.length_append, intCs_len, intCs_len, hql]) (Imp.app (L := [_]) (M := [_]) Imp.refl Imp.nil)).ent
 ·rw [hql]; rfl
end Conf
namespace Conf
open Go Api Vg T Sched
attribute [local irreducible] VO VC VA
def checkM (c : ConfM) : Int := if c = fitM c then 0 else 2
theorem conf_ext {c d : ConfM} (h0 : c.nodes = d.nodes) (h1 : c.chain = d.chain) (h2 : c.clients = d.clients) (h3 : c.qs = d.qs) (h4 : c.queue = d.queue) (h5 : c.window = d.window) (h6 : c.reads = d.reads) (h7 : c.link = d.link) (h8 : c.patience = d.patience) (h9 : c.timeout = d.timeout) (h10 : c.budget = d.budget) (h11 : c.refill = d.refill) : c = d := by
 cases c; cases d; simp_all
theorem check_spec (c : ConfM) (a : Option Addr) (cap : Nat) (hq : IntsIn Fr w a c.qs) (ha : AdOk a) (hcap : c.qs.length ≤ cap) : Tri Tryz.prog 15 [.agg (c.cells a cap).toArray] Fr w []
  (fun v L => v = .int .i64 (checkM c) ∧ L = []) := by
 refine TF 91 Tryz.func15 Z yj tabOk Z Z ?_
 refine CS (CG (VG (VB (vs := c.cells a cap) Z fun x => VG (VN ?_))))
 refine CS (CG (VG (VL 0 (c.cells a cap) Z Z Z Z ?_)))
 refine VG (VK (Lc := []) (fun Fr w hF hs _ => fit_spec Fr w c a cap (ints_of hq hF hs) ha hcap) Z Z ?_)
 rintro _ _ ⟨a', cap', ha', hcap', rfl, rfl⟩
 refine VG (VO.alloc Z fun f => VG (VT (vs := (fitM c).cells a' cap') (cs' := (fitM c).cells a' cap') 0 Z Z Z Z (NR _) Z Z Z (VG (VN ?_))))
 refine VC.meet (σ := Bool) (fun b => [(4, .bool b)]) (fun _ => []) (fun b => b = decide (c = fitM c)) ?_ ?_
 rotate_left
 ·rintro b rfl
  refine CS (CS (CG (VG (VN ?_))))
  refine VC.condN Z (fun h => ?_) (fun h => CK ?_)
  ·have h := of_decide_eq_false h
   refine xbf ?_
   exact CR (Ret.int 2 Z Z (by rw [checkM, if_neg h]) ER ⟨rfl, Z⟩)
  ·have h := of_decide_eq_true h
   refine xbf ?_
   exact CR (Ret.int 2 Z Z (by rw [checkM, if_pos h]) ER ⟨rfl, Z⟩)
 refine CG ?_
 refine xce ?_
 refine VG (VO.split 12 Z Z (fun h0 => ?_) (fun h0 => ?_))
 rotate_left
 ·refine VG (VY 19 false Z Z ?_)
  refine VG (VY 26 false Z Z ?_)
  refine VG (VY 33 false Z Z ?_)
  refine xby ?_
  refine xcf ?_
  refine zfu ?_
  refine VG (VN ⟨false, ?_, sbZ, Imp.nil.ent⟩)
  show false = decide _; symm; apply DF; intro e
  exact (beq_eq_false_iff_ne.1 h0) (congrArg ConfM.nodes e)
 refine xce ?_
 refine VG (VO.split 19 Z Z (fun h1 => ?_) (fun h1 => ?_))
 rotate_left
 ·refine VG (VY 26 false Z Z ?_)
  refine VG (VY 33 false Z Z ?_)
  refine xby ?_
  refine xcf ?_
  refine zfu ?_
  refine VG (VN ⟨false, ?_, sbZ, Imp.nil.ent⟩)
  show false = decide _; symm; apply DF; intro e
  exact (beq_eq_false_iff_ne.1 h1) (congrArg ConfM.chain e)
 refine xce ?_
 refine VG (VO.split 26 Z Z (fun h2 => ?_) (fun h2 => ?_))
 rotate_left
 ·refine VG (VY 33 false Z Z ?_)
  refine xby ?_
  refine xcf ?_
  refine zfu ?_
  refine VG (VN ⟨false, ?_, sbZ, Imp.nil.ent⟩)
  show false = decide _; symm; apply DF; intro e
  exact (beq_eq_false_iff_ne.1 h2) (congrArg ConfM.clients e)
 refine xce ?_
 refine VG (VV (fun Fr w hF hs h2 => equal_spec Fr w a a' cap cap' c.qs (fitM c).qs (ints_of hq hF hs) (ints_sl (h2.at_ 1 Z)) (by have := (qFit_len c.qs).2; show (qFit c.qs).length ≤ 1000; omega)) Z ?_)
 refine VG (VO.split 33 Z Z (fun h3 => ?_) (fun h3 => ?_))
 rotate_left
 ·refine xby ?_
  refine xcf ?_
  refine zfu ?_
  refine VG (VN ⟨false, ?_, sbZ, Imp.nil.ent⟩)
  show false = decide _; symm; apply DF; intro e
  exact (of_decide_eq_false h3) (congrArg ConfM.qs e)
 refine xce ?_
 refine VG (VO.split 40 Z Z (fun h4 => ?_) (fun h4 => ?_))
 rotate_left
 ·refine xcf ?_
  refine zfu ?_
  refine VG (VN ⟨false, ?_, sbZ, Imp.nil.ent⟩)
  show false = decide _; symm; apply DF; intro e
  exact (beq_eq_false_iff_ne.1 h4) (congrArg ConfM.queue e)
 refine xce ?_
 refine VG (VO.split 47 Z Z (fun h5 => ?_) (fun h5 => ?_))
 rotate_left
 ·refine zfu ?_
  refine VG (VN ⟨false, ?_, sbZ, Imp.nil.ent⟩)
  show false = decide _; symm; apply DF; intro e
  exact (beq_eq_false_iff_ne.1 h5) (congrArg ConfM.window e)
 refine xce ?_
 refine VG (VO.split 54 Z Z (fun h6 => ?_) (fun h6 => ?_))
 rotate_left
 ·refine zfr ?_
  refine VG (VN ⟨false, ?_, sbZ, Imp.nil.ent⟩)
  show false = decide _; symm; apply DF; intro e
  exact (beq_eq_false_iff_ne.1 h6) (congrArg ConfM.reads e)
 refine xce ?_
 refine VG (VO.split 61 Z Z (fun h7 => ?_) (fun h7 => ?_))
 rotate_left
 ·refine zfq ?_
  refine VG (VN ⟨false, ?_, sbZ, Imp.nil.ent⟩)
  show false = decide _; symm; apply DF; intro e
  exact (beq_eq_false_iff_ne.1 h7) (congrArg ConfM.link e)
 refine xce ?_
 refine VG (VO.split 68 Z Z (fun h8 => ?_) (fun h8 => ?_))
 rotate_left
 ·refine zfn ?_
  refine VG (VN ⟨false, ?_, sbZ, Imp.nil.ent⟩)
  show false = decide _; symm; apply DF; intro e
  exact (beq_eq_false_iff_ne.1 h8) (congrArg ConfM.patience e)
 refine xce ?_
 refine VG (VO.split 75 Z Z (fun h9 => ?_) (fun h9 => ?_))
 rotate_left
 ·refine xck ?_
  refine VG (VN ⟨false, ?_, sbZ, Imp.nil.ent⟩)
  show false = decide _; symm; apply DF; intro e
  exact (beq_eq_false_iff_ne.1 h9) (congrArg ConfM.timeout e)
 refine xce ?_
 refine VG (VO.split 82 Z Z (fun h10 => ?_) (fun h10 => ?_))
 rotate_left
 ·refine VG (VN ⟨false, ?_, sbZ, Imp.nil.ent⟩)
  show false = decide _; symm; apply DF; intro e
  exact (beq_eq_false_iff_ne.1 h10) (congrArg ConfM.budget e)
 refine xce ?_
 refine VG (VN ⟨(c.refill == (fitM c).refill), ?_, sbZ, Imp.nil.ent⟩)
 show (c.refill == (fitM c).refill) = decide _
 rw [Bool.eq_iff_iff, beq_iff_eq, decide_eq_true_iff]
 refine ⟨fun h11 => conf_ext (eq_of_beq h0) (eq_of_beq h1) (eq_of_beq h2) (of_decide_eq_true h3) (eq_of_beq h4) (eq_of_beq h5) (eq_of_beq h6) (eq_of_beq h7) (eq_of_beq h8) (eq_of_beq h9) (eq_of_beq h10) h11, fun e => congrArg ConfM.refill e⟩
theorem rnear_spec (x lo hi : Int) : Tri Tryz.prog 24 [.int .i64 x, .int .i64 lo, .int .i64 hi] Fr w [] (fun v L => v = .int .i64 (near x lo hi) ∧ L = []) := by
 refine TF 12 Tryz.func24 Z yj tabOk Z Z ?_
 refine xbf ?_
 exact CR (Ret.int 6 Z Z (near_alt x lo hi) ER ⟨rfl, Z⟩)
theorem light_conf {X : Cx} (hX : X.tab = tab) {e : Env} {parts : Array (Nat × Operand)} {x0 x1 x2 x4 x5 x6 x7 x8 x9 x10 x11 : Int}
  (hp : evP e parts.toList = some [(0, .int .i64 x0), (1, .int .i64 x1), (2, .int .i64 x2), (4, .int .i64 x4), (5, .int .i64 x5), (6, .int .i64 x6), (7, .int .i64 x7), (8, .int .i64 x8), (9, .int .i64 x9), (10, .int .i64 x10), (11, .int .i64 x11)]) :
  Light X (.build 24 parts) e (.agg ([.int .i64 x0, .int .i64 x1, .int .i64 x2, .slice none 0 0, .int .i64 x4, .int .i64 x5, .int .i64 x6, .int .i64 x7, .int .i64 x8, .int .i64 x9, .int .i64 x10, .int .i64 x11] : List Value).toArray) :=
 LB _ (by rw [hX]; rfl) rfl hp yj rfl
theorem HOpn.adok (el esz : Nat) (a : Option Addr) (n cap : Nat) (cs : List Value) : HOpn (ι := Unit) (slH el esz a n cap cs) (fun _ => AdOk a) (fun _ => [slH el esz a n cap cs]) := by
 intro w ids h hn
 exact ⟨(), trivial, ids, ⟨ids, [], by simp, h, Z⟩, hn, fun b h => h⟩
structure FitI (qs : List Int) (x : Nat × Option Addr × Nat) : Prop where
 le : x.1 ≤ (qs.take 4).length
 room : x.1 ≤ x.2.2
theorem rfit_spec (c : ConfM) (a : Option Addr) (cap : Nat) (hq : IntsIn Fr w a c.qs) : Tri Tryz.prog 10 [.agg (c.cells a cap).toArray] Fr w []
  (fun v L => ∃ a' cap', AdOk a' ∧ (fitM c).qs.length ≤ cap' ∧ v = .agg ((fitM c).cells a' cap').toArray ∧ L = [intH a' cap' (fitM c).qs]) := by
 refine TF 74 Tryz.func10 Z yj tabOk Z Z ?_
 refine CS (CG (VG (VB (vs := c.cells a cap) Z fun x => VG (VO.alloc Z fun r => VG (VN ?_)))))
 refine CS (CG (VG (VO.ld 1 Z Z Z Z ?_)))
 refine VG (VO.callV (fun Fr w => rnear_spec Fr w c.nodes 1 6) Z (VG (VN ?_)))
 refine VC.meet (σ := Nat) (fun d => [(1, pV x), (2, pV r), (4, pV d)])
  (fun d => [pt d [.int .i64 (near c.nodes 1 6), .int .i64 (near c.chain 1 (near c.nodes 1 6)), .int .i64 (near c.clients 1 6), .slice none 0 0, .int .i64 (near c.queue 1 16), .int .i64 (near c.window 1 16), .int .i64 (near c.reads 1 16), .int .i64 (near c.link 4 64), .int .i64 (near c.patience 4 64), .int .i64 (near c.timeout 4 64), .int .i64 (near c.budget 0 16), .int .i64 (near c.refill 1 1099511627776)] 24, pt r T.t24.zs 24, pt x (c.cells a cap) 24]) (fun _ => True) ?_ ?_
 ·refine CD (.take 0 (.take 1 (.take 2 (.take 3 (.take 5 (.take 6 (.take 8 (.take 9 (.take 11 (.take 12 (.take 14 (.take 15 (.take 17 (.take 18 (.take 20 (.take 21 (.take 23 (.take 24 (.take 26 (.take 27 (.take 29 (.take 30 (.two 4 33 (.two 7 33 (.two 10 33 (.two 13 33 (.two 16 33 (.two 19 33 (.two 22 33 (.two 25 33 (.two 28 33 (.two 31 33 (.take 32 (.only 33 (.only 34 .nil))) (.only 31 (.take 32 (.only 34 .nil)))) (.only 28 (.only 31 (.take 32 (.only 34 .nil))))) (.only 25 (.only 28 (.only 31 (.take 32 (.only 34 .nil)))))) (.only 22 (.only 25 (.only 28 (.only 31 (.take 32 (.only 34 .nil))))))) (.only 19 (.only 22 (.only 25 (.only 28 (.only 31 (.take 32 (.only 34 .nil)))))))) (.only 16 (.only 19 (.only 22 (.only 25 (.only 28 (.only 31 (.take 32 (.only 34 .nil))))))))) (.only 13 (.only 16 (.only 19 (.only 22 (.only 25 (.only 28 (.only 31 (.take 32 (.only 34 .nil)))))))))) (.only 10 (.only 13 (.only 16 (.only 19 (.only 22 (.only 25 (.only 28 (.only 31 (.take 32 (.only 34 .nil))))))))))) (.only 7 (.only 10 (.only 13 (.only 16 (.only 19 (.only 22 (.only 25 (.only 28 (.only 31 (.take 32 (.only 34 .nil)))))))))))) (.only 4 (.only 7 (.only 10 (.only 13 (.only 16 (.only 19 (.only 22 (.only 25 (.only 28 (.only 31 (.take 32 (.only 34 .nil))))))))))))))))))))))))))))))))))) yj yl ?_
  refine xcl ?_
  refine VA.keepS (cond := fun L' => pt x (c.cells a cap) 24 ∈ L') (fun S hS => ?_) (fun L' hL' => ?_)
  rotate_left
  ·obtain ⟨i, hi⟩ := List.getElem?_of_mem hL'
   exact (by (try refine Pd.st ?_);(repeat (first|exact Pd.nil|exact Pd.fnil|refine Pd.inner ?_|refine Pd.skip yl ?_|refine zf (RdL.blk (RdL.one i hi Z) Z) ?_|refine zf ((RdL.one i hi Z)) ?_|refine zc (RdL.blk (RdL.one i hi Z) Z) ?_|refine zc ((RdL.one i hi Z)) ?_)))
  refine AG (VA.two rfl rfl rfl rfl rfl (OpT.callP (φ := fun v => v = .int .i64 (near c.chain 1 (near c.nodes 1 6))) (fun Fr w _ _ _ => rnear_spec Fr w _ _ _) rfl) rfl rfl rfl (OpT.alloc rfl) (fun v L' h => by obtain ⟨_, rfl⟩ := h; exact Pd.st yu) (fun v L' h => by obtain ⟨d, _, rfl⟩ := h; exact Pd.st yv) ?_ ?_)
  rotate_left
  ·rintro _ _ ⟨d, rfl, rfl⟩
   refine AG (AO (OpT.callP (φ := fun v => v = .int .i64 (near c.chain 1 (near c.nodes 1 6))) (fun Fr w _ _ _ => rnear_spec Fr w _ _ _) rfl) rfl (fun v L' h => by obtain ⟨_, rfl⟩ := h; exact yv) ?_)
   rintro _ _ ⟨rfl, rfl⟩
   refine xcm ?_
   rintro _ _ ⟨rfl, rfl⟩
   refine xcn ?_
   rintro _ _ ⟨rfl, rfl⟩
   refine xco ?_
   rintro _ _ ⟨rfl, rfl⟩
   refine xcp ?_
   rintro _ _ ⟨rfl, rfl⟩
   refine xcq ?_
   rintro _ _ ⟨rfl, rfl⟩
   refine xcr ?_
   rintro _ _ ⟨rfl, rfl⟩
   refine xcs ?_
   rintro _ _ ⟨rfl, rfl⟩
   refine xct ?_
   rintro _ _ ⟨rfl, rfl⟩
   refine xcu ?_
   rintro _ _ ⟨rfl, rfl⟩
   exact zfo
  rintro _ _ ⟨rfl, rfl⟩
  refine AG (VA.two rfl rfl rfl rfl rfl (OpT.callP (φ := fun v => v = .int .i64 (near c.clients 1 6)) (fun Fr w _ _ _ => rnear_spec Fr w _ _ _) rfl) rfl rfl rfl (OpT.alloc rfl) (fun v L' h => by obtain ⟨_, rfl⟩ := h; exact Pd.st yu) (fun v L' h => by obtain ⟨d, _, rfl⟩ := h; exact Pd.st yv) ?_ ?_)
  rotate_left
  ·rintro _ _ ⟨d, rfl, rfl⟩
   refine xcm ?_
   rintro _ _ ⟨rfl, rfl⟩
   refine xcn ?_
   rintro _ _ ⟨rfl, rfl⟩
   refine xco ?_
   rintro _ _ ⟨rfl, rfl⟩
   refine xcp ?_
   rintro _ _ ⟨rfl, rfl⟩
   refine xcq ?_
   rintro _ _ ⟨rfl, rfl⟩
   refine xcr ?_
   rintro _ _ ⟨rfl, rfl⟩
   refine xcs ?_
   rintro _ _ ⟨rfl, rfl⟩
   refine xct ?_
   rintro _ _ ⟨rfl, rfl⟩
   refine xcu ?_
   rintro _ _ ⟨rfl, rfl⟩
   exact zfo
  rintro _ _ ⟨rfl, rfl⟩
  refine AG (VA.two rfl rfl rfl rfl rfl (OpT.callP (φ := fun v => v = .int .i64 (near c.queue 1 16)) (fun Fr w _ _ _ => rnear_spec Fr w _ _ _) rfl) rfl rfl rfl (OpT.alloc rfl) (fun v L' h => by obtain ⟨_, rfl⟩ := h; exact Pd.st yu) (fun v L' h => by obtain ⟨d, _, rfl⟩ := h; exact Pd.st yv) ?_ ?_)
  rotate_left
  ·rintro _ _ ⟨d, rfl, rfl⟩
   refine xcn ?_
   rintro _ _ ⟨rfl, rfl⟩
   refine xco ?_
   rintro _ _ ⟨rfl, rfl⟩
   refine xcp ?_
   rintro _ _ ⟨rfl, rfl⟩
   refine xcq ?_
   rintro _ _ ⟨rfl, rfl⟩
   refine xcr ?_
   rintro _ _ ⟨rfl, rfl⟩
   refine xcs ?_
   rintro _ _ ⟨rfl, rfl⟩
   refine xct ?_
   rintro _ _ ⟨rfl, rfl⟩
   refine xcu ?_
   rintro _ _ ⟨rfl, rfl⟩
   exact zfo
  rintro _ _ ⟨rfl, rfl⟩
  refine AG (VA.two rfl rfl rfl rfl rfl (OpT.callP (φ := fun v => v = .int .i64 (near c.window 1 16)) (fun Fr w _ _ _ => rnear_spec Fr w _ _ _) rfl) rfl rfl rfl (OpT.alloc rfl) (fun v L' h => by obtain ⟨_, rfl⟩ := h; exact Pd.st yu) (fun v L' h => by obtain ⟨d, _, rfl⟩ := h; exact Pd.st yv) ?_ ?_)
  rotate_left
  ·rintro _ _ ⟨d, rfl, rfl⟩
   refine xco ?_
   rintro _ _ ⟨rfl, rfl⟩
   refine xcp ?_
   rintro _ _ ⟨rfl, rfl⟩
   refine xcq ?_
   rintro _ _ ⟨rfl, rfl⟩
   refine xcr ?_
   rintro _ _ ⟨rfl, rfl⟩
   refine xcs ?_
   rintro _ _ ⟨rfl, rfl⟩
   refine xct ?_
   rintro _ _ ⟨rfl, rfl⟩
   refine xcu ?_
   rintro _ _ ⟨rfl, rfl⟩
   exact zfo
  rintro _ _ ⟨rfl, rfl⟩
  refine AG (VA.two rfl rfl rfl rfl rfl (OpT.callP (φ := fun v => v = .int .i64 (near c.reads 1 16)) (fun Fr w _ _ _ => rnear_spec Fr w _ _ _) rfl) rfl rfl rfl (OpT.alloc rfl) (fun v L' h => by obtain ⟨_, rfl⟩ := h; exact Pd.st yu) (fun v L' h => by obtain ⟨d, _, rfl⟩ := h; exact Pd.st yv) ?_ ?_)
  rotate_left
  ·rintro _ _ ⟨d, rfl, rfl⟩
   refine xcp ?_
   rintro _ _ ⟨rfl, rfl⟩
   refine xcq ?_
   rintro _ _ ⟨rfl, rfl⟩
   refine xcr ?_
   rintro _ _ ⟨rfl, rfl⟩
   refine xcs ?_
   rintro _ _ ⟨rfl, rfl⟩
   refine xct ?_
   rintro _ _ ⟨rfl, rfl⟩
   refine xcu ?_
   rintro _ _ ⟨rfl, rfl⟩
   exact zfo
  rintro _ _ ⟨rfl, rfl⟩
  refine AG (VA.two rfl rfl rfl rfl rfl (OpT.callP (φ := fun v => v = .int .i64 (near c.link 4 64)) (fun Fr w _ _ _ => rnear_spec Fr w _ _ _) rfl) rfl rfl rfl (OpT.alloc rfl) (fun v L' h => by obtain ⟨_, rfl⟩ := h; exact Pd.st yu) (fun v L' h => by obtain ⟨d, _, rfl⟩ := h; exact Pd.st yv) ?_ ?_)
  rotate_left
  ·rintro _ _ ⟨d, rfl, rfl⟩
   refine xcq ?_
   rintro _ _ ⟨rfl, rfl⟩
   refine xcr ?_
   rintro _ _ ⟨rfl, rfl⟩
   refine xcs ?_
   rintro _ _ ⟨rfl, rfl⟩
   refine xct ?_
   rintro _ _ ⟨rfl, rfl⟩
   refine xcu ?_
   rintro _ _ ⟨rfl, rfl⟩
   exact zfo
  rintro _ _ ⟨rfl, rfl⟩
  refine AG (VA.two rfl rfl rfl rfl rfl (OpT.callP (φ := fun v => v = .int .i64 (near c.patience 4 64)) (fun Fr w _ _ _ => rnear_spec Fr w _ _ _) rfl) rfl rfl rfl (OpT.alloc rfl) (fun v L' h => by obtain ⟨_, rfl⟩ := h; exact Pd.st yu) (fun v L' h => by obtain ⟨d, _, rfl⟩ := h; exact Pd.st yv) ?_ ?_)
  rotate_left
  ·rintro _ _ ⟨d, rfl, rfl⟩
   refine xcr ?_
   rintro _ _ ⟨rfl, rfl⟩
   refine xcs ?_
   rintro _ _ ⟨rfl, rfl⟩
   refine xct ?_
   rintro _ _ ⟨rfl, rfl⟩
   refine xcu ?_
   rintro _ _ ⟨rfl, rfl⟩
   exact zfo
  rintro _ _ ⟨rfl, rfl⟩
  refine AG (VA.two rfl rfl rfl rfl rfl (OpT.callP (φ := fun v => v = .int .i64 (near c.timeout 4 64)) (fun Fr w _ _ _ => rnear_spec Fr w _ _ _) rfl) rfl rfl rfl (OpT.alloc rfl) (fun v L' h => by obtain ⟨_, rfl⟩ := h; exact Pd.st yu) (fun v L' h => by obtain ⟨d, _, rfl⟩ := h; exact Pd.st yv) ?_ ?_)
  rotate_left
  ·rintro _ _ ⟨d, rfl, rfl⟩
   refine xcs ?_
   rintro _ _ ⟨rfl, rfl⟩
   refine xct ?_
   rintro _ _ ⟨rfl, rfl⟩
   refine xcu ?_
   rintro _ _ ⟨rfl, rfl⟩
   exact zfo
  rintro _ _ ⟨rfl, rfl⟩
  refine AG (VA.two rfl rfl rfl rfl rfl (OpT.callP (φ := fun v => v = .int .i64 (near c.budget 0 16)) (fun Fr w _ _ _ => rnear_spec Fr w _ _ _) rfl) rfl rfl rfl (OpT.alloc rfl) (fun v L' h => by obtain ⟨_, rfl⟩ := h; exact Pd.st yu) (fun v L' h => by obtain ⟨d, _, rfl⟩ := h; exact Pd.st yv) ?_ ?_)
  rotate_left
  ·rintro _ _ ⟨d, rfl, rfl⟩
   refine xct ?_
   rintro _ _ ⟨rfl, rfl⟩
   refine xcu ?_
   rintro _ _ ⟨rfl, rfl⟩
   exact zfo
  rintro _ _ ⟨rfl, rfl⟩
  refine AG (VA.two rfl rfl rfl rfl rfl (OpT.callP (φ := fun v => v = .int .i64 (near c.refill 1 1099511627776)) (fun Fr w _ _ _ => rnear_spec Fr w _ _ _) rfl) rfl rfl rfl (OpT.alloc rfl) (fun v L' h => by obtain ⟨_, rfl⟩ := h; exact Pd.st yu) (fun v L' h => by obtain ⟨d, _, rfl⟩ := h; exact Pd.st yv) ?_ ?_)
  rotate_left
  ·rintro _ _ ⟨d, rfl, rfl⟩
   refine xcu ?_
   rintro _ _ ⟨rfl, rfl⟩
   exact zfo
  rintro _ _ ⟨rfl, rfl⟩
  refine xcv ?_
  refine AG (AO (OpT.alloc rfl) rfl (fun v L' h => by obtain ⟨d, _, rfl⟩ := h; exact yv) ?_)
  rintro _ _ ⟨d, rfl, rfl⟩
  refine xcw ?_
  exact xcx
 rintro d _
 have ht4 := List.length_take_le 4 c.qs
 have htl : (c.qs.take 4).length = if c.qs.length ≤ 4 then c.qs.length else 4 := by rw [List.length_take]; split <;> omega
 refine VC.meet (σ := Option Addr × Nat) (fun _ => [(1, pV x), (2, pV r), (4, pV d)])
  (fun y => [slH 3 1 y.1 (c.qs.take 4).length y.2 (intCs ((c.qs.take 4).map qNear)), pt d [.int .i64 (near c.nodes 1 6), .int .i64 (near c.chain 1 (near c.nodes 1 6)), .int .i64 (near c.clients 1 6), .slice y.1 (c.qs.take 4).length y.2, .int .i64 (near c.queue 1 16), .int .i64 (near c.window 1 16), .int .i64 (near c.reads 1 16), .int .i64 (near c.link 4 64), .int .i64 (near c.patience 4 64), .int .i64 (near c.timeout 4 64), .int .i64 (near c.budget 0 16), .int .i64 (near c.refill 1 1099511627776)] 24, pt r T.t24.zs 24]) (fun y => (c.qs.take 4).length ≤ y.2) ?_ ?_
 ·refine CS (CG (VG (VN (VC.block ?_))))
  refine VC.loop (σ := Nat × Option Addr × Nat) (fun y => [(1, pV x), (2, pV r), (4, pV d), (5, .int .i64 y.1)])
   (fun y => [slH 3 1 y.2.1 y.1 y.2.2 (intCs ((c.qs.take y.1).map qNear)), pt d [.int .i64 (near c.nodes 1 6), .int .i64 (near c.chain 1 (near c.nodes 1 6)), .int .i64 (near c.clients 1 6), .slice y.2.1 y.1 y.2.2, .int .i64 (near c.queue 1 16), .int .i64 (near c.window 1 16), .int .i64 (near c.reads 1 16), .int .i64 (near c.link 4 64), .int .i64 (near c.patience 4 64), .int .i64 (near c.timeout 4 64), .int .i64 (near c.budget 0 16), .int .i64 (near c.refill 1 1099511627776)] 24, pt r T.t24.zs 24, pt x (c.cells a cap) 24]) (FitI c.qs) (fun y => 4 - y.1) (0, none, 0) ⟨Nat.zero_le _, NR _⟩ sbZ (Imp.slNil Imp.refl).ent ?_
  rintro ⟨i, ai, ci⟩ ⟨hi, hroom⟩
  dsimp only at hi hroom ⊢
  refine CS (CS (CG (VG (VO.ld 3 Z Z Z Z ?_))))
  refine VG (VO.split 47 Z Z (fun h1 => ?_) (fun h1 => VG (VN (VC.condF Z (CX ?_)))))
  rotate_left
  ·have h1 := of_decide_eq_false h1
   have hi2 : i = (c.qs.take 4).length := by rw [htl] at hi ⊢; split at hi <;> split <;> omega
   have hi3 : c.qs.take i = c.qs.take 4 := by rw [hi2, List.length_take]; rw [List.take_eq_take_iff]; omega
   refine ⟨(ai, ci), by rw [← hi2]; exact hroom, sbZ, ?_⟩
   dsimp only
   rw [← hi2, ← hi3]
   exact (Imp.app (L := [_, _, _]) (M := [_, _, _]) Imp.refl Imp.nil).ent
  have h1 := of_decide_eq_true h1
  refine VG (VN (CP Z (fun h2 => CK ?_) (fun h2 => CX ?_)))
  rotate_left
  ·have hi2 : i = (c.qs.take 4).length := by rw [htl] at hi ⊢; split at hi <;> split <;> omega
   have hi3 : c.qs.take i = c.qs.take 4 := by rw [hi2, List.length_take]; rw [List.take_eq_take_iff]; omega
   refine ⟨(ai, ci), by rw [← hi2]; exact hroom, sbZ, ?_⟩
   dsimp only
   rw [← hi2, ← hi3]
   exact (Imp.app (L := [_, _, _]) (M := [_, _, _]) Imp.refl Imp.nil).ent
  have hiq : i < c.qs.length := by omega
  obtain ⟨qb, qo, hqa, hFq, hcq⟩ := hq.at_ (fun e => by rw [e] at hiq; simp at hiq)
  have hy := GE hiq
  generalize c.qs[i] = y at hy
  have hsl : some (Value.slice a c.qs.length cap) = some (Value.slice (some ⟨qb, qo, none⟩) c.qs.length cap) := by rw [hqa]
  have htk : c.qs.take (i + 1) = c.qs.take i ++ [y] := by rw [List.take_add_one, hy]; rfl
  have hcell : w.cell? ⟨qb, qo + i * 1, none⟩ = some (.int .i64 y) := by rw [Nat.mul_one]; exact hcq i y hy
  have PQ : ∀ {L : List HP}, RdL (⟨Tryz.prog, tab, tabOk, 74, Fr, w⟩ : Cx) L T.t3 qb (qo + i * T.t3.size) (.int .i64 y) := RdL.rd hFq hcell
  refine CS (VC.block (CD (ts 0 7 (.only 7 (.only 8 (.only 9 (.take 10 (.only 11 .nil)))))) yj yl ?_))
  (repeat (first|refine yG (yN ?_)|refine yG (yD 0 rfl rfl rfl rfl rfl ?_)|refine yG (yD 1 rfl rfl rfl rfl rfl ?_)|refine yG (yD 2 rfl rfl rfl rfl rfl ?_)|refine yG (yD 3 rfl rfl rfl rfl rfl ?_)))
  refine AG (AI Z (light_idx i hsl Z Z Z Z Z hiq) ?_)
  refine AG (VA.load Z Z Z (RdL.rd (v := .int .i64 y) hFq hcell) ?_)
  refine AG (VA.callP (φ := fun v => v = .int .i64 (qNear y)) (fun Fr w _ _ _ => rnear_spec Fr w _ _ _) Z Z (by (try refine Pd.st ?_);(repeat (first|exact Pd.nil|exact Pd.fnil|refine Pd.inner ?_|refine Pd.skip yl ?_|refine zf (zo 0 Z Z) ?_|refine zf (zo 1 Z Z) ?_|refine zf (zo 2 Z Z) ?_|refine zf (zo 3 Z Z) ?_|refine zf (zm 0 Z Z) ?_|refine zf (zm 1 Z Z) ?_|refine zf (zm 2 Z Z) ?_|refine zf (zm 3 Z Z) ?_|refine zf (RdL.blk PQ Z) ?_|refine zf (PQ) ?_|refine zc (zo 0 Z Z) ?_|refine zc (zo 1 Z Z) ?_|refine zc (zo 2 Z Z) ?_|refine zc (zo 3 Z Z) ?_|refine zc (zm 0 Z Z) ?_|refine zc (zm 1 Z Z) ?_|refine zc (zm 2 Z Z) ?_|refine zc (zm 3 Z Z) ?_|refine zc (RdL.blk PQ Z) ?_|refine zc (PQ) ?_))) ?_)
  rintro _ rfl
  refine AG (AO (OpT.buildSlice (n := 1) (pv := [(0, .int .i64 (qNear y))]) (cells := [.int .i64 (qNear y)]) Z Z Z Z yk Z) Z ?_ ?_)
  ·rintro _ _ ⟨nb, rfl, rfl⟩
   exact yw
  rintro _ _ ⟨nb, rfl, rfl⟩
  refine AG (AO (OpT.append (m := 1) (news := [.int .i64 (qNear y)]) 1 Z Z Z Z Z Z Z (RdRow.pt 0 Z Z Z) Z (by show (i + 1) * 8 ≤ _; omega) yf) Z ?_ ?_)
  ·rintro _ _ ⟨a2, c2, rfl, hc2, rfl⟩
   exact yw
  rintro _ _ ⟨a2, c2, rfl, hc2, rfl⟩
  (repeat (first|refine yG (yN ?_)|refine yG (yD 0 rfl rfl rfl rfl rfl ?_)|refine yG (yD 1 rfl rfl rfl rfl rfl ?_)|refine yG (yD 2 rfl rfl rfl rfl rfl ?_)|refine yG (yD 3 rfl rfl rfl rfl rfl ?_)|refine yG (yD 4 rfl rfl rfl rfl rfl ?_)))
  refine AG (VA.st 2 Z Z Z Z Z yq Z Z yw (AG (AN ?_)))
  refine zfh ?_
  refine ⟨(i + 1, a2, c2), ⟨by rw [htl]; split <;> omega, hc2⟩, by dsimp only; omega, sbZ, ?_⟩
  dsimp only
  rw [htk]
  have e : intCs ((c.qs.take i ++ [y]).map qNear) = intCs ((c.qs.take i).map qNear) ++ [.int .i64 (qNear y)] := by simp [intCs]
  rw [e]
  exact (Imp.cons Imp.tl).ent
 rintro ⟨ai, ci⟩ hroom
 dsimp only at hroom ⊢
 have hf1 := qFit_len c.qs
 refine VC.meet (σ := Option Addr × Nat) (fun _ => [(2, pV r), (4, pV d)])
  (fun y => [intH y.1 y.2 (qFit c.qs), pt d ((fitM c).cells y.1 y.2) 24, pt r T.t24.zs 24]) (fun y => (qFit c.qs).length ≤ y.2 ∧ AdOk y.1) ?_ ?_
 ·refine CS (CG (VG (VO.ld 1 Z Z Z Z (VG (VN ?_)))))
  refine CE Z (fun hz => ?_) (fun hz => ?_)
  ·have hz : c.qs.take 4 = [] := List.eq_nil_of_length_eq_zero yf
   have hqf : qFit c.qs = [96] := by unfold qFit qFirst; rw [if_pos hz]; rfl
   refine CG (VG (VO.ld 1 Z Z Z Z ?_))
   refine VG (VO.buildSlice (n := 1) (pv := [(0, .int .i64 96)]) [.int .i64 96] Z Z Z Z yk Z fun nb => ?_)
   refine VG (VO.append (m := 1) (news := [.int .i64 96]) 1 Z Z Z Z Z Z Z (RdRow.pt 0 Z Z Z) Z (by show ((c.qs.take 4).length + 1) * 8 ≤ _; omega) yf fun a2 c2 hc2 => ?_)
   refine VO.opn 0 Z (HOpn.adok _ _ _ _ _ _) fun _ had => ?_
   refine VG (VO.st 2 Z Z Z Z yq Z Z (VG (VN ?_)))
   have e1 : intCs ((c.qs.take 4).map qNear) ++ [.int .i64 96] = intCs (qFit c.qs) := by rw [hqf, hz]; rfl
   have e2 : (c.qs.take 4).length + 1 = (qFit c.qs).length := by rw [hqf, hz]; rfl
   refine ⟨(a2, c2), ⟨by rw [← e2]; exact hc2, had⟩, sbZ, ?_⟩
   rw [e1, e2]
   exact (Imp.cons Imp.tl).ent
  ·have hz : ¬ c.qs.take 4 = [] := fun e => hz (by rw [e]; rfl)
   have hqf : qFit c.qs = (c.qs.take 4).map qNear := by unfold qFit qFirst; rw [if_neg hz]
   refine VC.opn 0 Z (HOpn.adok _ _ _ _ _ _) fun _ had => CK ?_
   have e1 : intCs ((c.qs.take 4).map qNear) = intCs (qFit c.qs) := by rw [hqf]
   have e2 : (c.qs.take 4).length = (qFit c.qs).length := by rw [hqf, List.length_map]
   refine ⟨(ai, ci), ⟨by rw [← e2]; exact hroom, had⟩, sbZ, ?_⟩
   rw [e1, e2]
   exact ER
 rintro ⟨af, cf⟩ ⟨hcf, haf⟩
 dsimp only at hcf haf ⊢
 refine CS (CG (VG (VL 1 ((fitM c).cells af cf) Z Z Z Z ?_)))
 refine VG (VT (vs := (fitM c).cells af cf) (cs' := (fitM c).cells af cf) 2 Z Z Z Z (NR _) Z Z Z (VG (VN ?_)))
 exact CR (Ret.cell 2 Z Z Z (RdL.many 2 Z Z) (L' := [intH af cf (qFit c.qs)]) (Imp.app (L := [_]) (M := [_]) Imp.refl Imp.nil).ent ⟨af, cf, haf, hcf, Z, Z⟩)
end Conf
namespace Adm
open Go Vg T Api Sched Conf
attribute [local irreducible] VO VC VA
abbrev MkM := Int × Int
def numM (n : Int) : Bool := decide (1 ≤ n) && decide (n ≤ 1099511627776)
structure AdmM where
 sch : SchM
 clients : Int
 marks : List MkM
 waits : List Int
structure AdmM.Wf (A : AdmM) : Prop where
 sch : A.sch.Wf
 c0 : 1 ≤ A.clients
 c1 : A.clients ≤ 6
 marks : A.marks.length = 6
 waits : A.waits.length = 6
def markCs (m : MkM) : List Value := [.int .i64 m.1, .int .i64 m.2]
def admCs (A : AdmM) (sp : Nat) : List Value := .pointer (some ⟨sp, 0, none⟩) :: .int .i64 A.clients :: .int .i64 A.sch.cls.length :: (flat markCs A.marks ++ intCs A.waits)
def admL (p : Nat) (A : AdmM) (sp : Nat) : List HP := [pt p (admCs A sp) 178, schH sp A.sch]
def admH (p : Nat) (A : AdmM) : HP := hex fun sp => hsep (hpure A.Wf :: admL p A sp)
theorem adm_shut {p : Nat} {A : AdmM} {L : List HP} (sp : Nat) (hs : A.Wf) (h : Imp L (admL p A sp)) : Imp L [admH p A] :=
 Imp.ex sp (Imp.sep (Imp.trans h (Imp.of_eq (List.append_nil _).symm |>.trans (Imp.pure hs Imp.refl))))
structure AdmIn (Fr : Nat → Prop) (w : World) (p : Nat) (A : AdmM) (sp : Nat) : Prop where
 wf : A.Wf
 at0 : Blk Fr w p (admCs A sp)
 sch : SatIn Fr [schH sp A.sch] w
theorem AdmIn.of {Fr : Nat → Prop} {w : World} {p : Nat} {A : AdmM} (h : SatIn Fr [admH p A] w) : ∃ sp, AdmIn Fr w p A sp := by
 obtain ⟨s, h⟩ := h.ex
 have h := h.sep
 exact ⟨s, h.pure 0 Z, h.blk 1 Z, h.at_ 2 Z⟩
theorem none_spec {p : Nat} {a : Addr} {cs : List Value} (h : Blk Fr w p (.pointer (some a) :: cs)) : Tri Tryz.prog 89 [.pointer (some ⟨p, 0, none⟩)] Fr w [] (fun v L => v = .bool false ∧ L = []) := by
 refine TF 12 Tryz.func89 Z yj tabOk Z Z ?_
 refine xbf ?_
 refine VG (VO.split 5 rfl rfl (fun h => by cases h) (fun _ => ?_))
 refine xbg ?_
 exact xbl
theorem len_spec {p : Nat} {A : AdmM} (k : Int) (h : SatIn Fr [admH p A] w) : Tri Tryz.prog 65 [.pointer (some ⟨p, 0, none⟩), .int .i64 k] Fr w [] (fun v L => v = .int .i64 (A.sch.lenM k) ∧ L = []) := by
 obtain ⟨sp, h⟩ := AdmIn.of h
 have hb := h.at0
 have hsch := h.sch
 refine TF 13 Tryz.func65 Z yj tabOk Z Z ?_
 refine xbf ?_
 refine VG (VV (fun Fr w hF hs _ => none_spec Fr w (hb.of hF hs)) Z (VG (VN (VC.condF Z (CK ?_)))))
 refine xbo ?_
 refine VG (VV (fun Fr w hF hs _ => Sched.len_spec Fr w k (hsch.of hF hs)) Z (VG (VN ?_)))
 exact CR (Ret.int 4 Z Z Z ER ⟨rfl, Z⟩)
end Adm
namespace Adm
open Go Vg T Api Sched Conf
attribute [local irreducible] VO VC VA
def newA (c : ConfM) : AdmM := ⟨SchM.new c.qs c.queue, c.clients, List.replicate 6 (0, 0), List.replicate 6 0⟩
theorem conf_new {c : ConfM} (h : c = fitM c) : newOk c.qs c.queue = true ∧ 1 ≤ c.clients ∧ c.clients ≤ 6 := by
 have h1 : c.qs = qFit c.qs := congrArg ConfM.qs h
 have h2 : c.queue = near c.queue 1 16 := congrArg ConfM.queue h
 have h3 : c.clients = near c.clients 1 6 := congrArg ConfM.clients h
 have h4 := qFit_len c.qs
 have h5 := near_in (x := c.queue) (lo := 1) (hi := 16) yf
 have h6 := near_in (x := c.clients) (lo := 1) (hi := 6) yf
 rw [← h1] at h4
 rw [← h2] at h5
 rw [← h3] at h6
 refine ⟨?_, h6⟩
 have h7 : c.qs.all quantumOk = true := by
  rw [List.all_eq_true]
  intro q hq
  rw [h1] at hq
  obtain ⟨x, _, rfl⟩ := List.mem_map.1 hq
  have := near_in (x := x) (lo := 96) (hi := 65536) yf
  simp [quantumOk, qNear, this]
 simp [newOk, h4, h5, h7]
theorem newA_wf {c : ConfM} (h : c = fitM c) : (newA c).Wf := by
 obtain ⟨h1, h2, h3⟩ := conf_new h
 exact ⟨SchM.new_wf h1, h2, h3, Z, Z⟩
theorem new_spec (c : ConfM) (a : Option Addr) (cap : Nat) (hq : IntsIn Fr w a c.qs) (ha : AdOk a) (hcap : c.qs.length ≤ cap) : Tri Tryz.prog 79 [.agg (c.cells a cap).toArray] Fr w []
  (fun v L => if c = fitM c then ∃ p, v = .tuple #[.pointer (some ⟨p, 0, none⟩), .int .i64 0] ∧ L = [admH p (newA c)] else v = .tuple #[.pointer none, .int .i64 2] ∧ L = []) := by
 refine TF 30 Tryz.func79 Z yj tabOk Z Z ?_
 refine CS (CG (VG (VB (vs := c.cells a cap) Z fun x => VG (VN ?_))))
 refine xbf ?_
 refine xbt ?_
 refine VG (VV (fun Fr w hF hs _ => check_spec Fr w c a cap (ints_of hq hF hs) ha hcap) Z (VG (VN ?_)))
 refine xbf ?_
 refine VC.condNE Z (fun h1 => ?_) (fun h1 => CK ?_)
 ·have hc : ¬ c = fitM c := fun e => h1 (by rw [checkM, if_pos e])
  have hc2 : checkM c = 2 := by rw [checkM, if_neg hc]
  refine xbf ?_
  refine CR (Ret.tmp2 2 3 Z Z Z Imp.nil.ent ?_)
  rw [if_neg hc, hc2]; exact ⟨rfl, rfl⟩
 have hc : c = fitM c := by
  apply Decidable.byContradiction
  intro hc
  rw [checkM, if_neg hc] at h1
  cases h1
 obtain ⟨hok, hc0, hc1⟩ := conf_new hc
 refine xbf ?_
 refine VG (VK (Lc := []) (fun Fr w hF hs _ => Sched.new_spec Fr w a cap c.qs c.queue (ints_of hq hF hs)) Z Z ?_)
 intro v L hv
 unfold newR at hv
 rw [if_pos hok] at hv
 obtain ⟨sp, rfl, rfl⟩ := hv
 refine xbf ?_
 refine VC.condNE Z (fun h => absurd Z h) (fun _ => CK ?_)
 refine xbv ?_
 refine VG (VI (LB (pv := [(0, pV sp), (1, .int .i64 c.clients), (2, .int .i64 c.qs.length)]) (admCs (newA c) sp) Z Z Z (by
  have e : (newA c).sch.cls.length = c.qs.length := by simp [newA, SchM.new]
  simp only [admCs, e]
  rfl) rfl) ?_)
 refine VG (VB (vs := admCs (newA c) sp) Z fun p => VG (VN ?_))
 refine CR (Ret.tmp2 2 3 Z Z Z (L' := [admH p (newA c)]) (adm_shut sp (newA_wf hc) (Imp.app (L := [_, _]) (M := [_, _]) Imp.refl Imp.nil)).ent ?_)
 rw [if_pos hc]; exact ⟨p, rfl, rfl⟩
end Adm
namespace Adm
open Go Vg T Api Sched Conf
attribute [local irreducible] VO VC VA
def okC (n : Int) (f : FrameM) : Prop := (0 ≤ f.client ∧ f.client < n) ∧ numM f.seq = true ∧ numM f.try_ = true
def AdmM.Calls (A : AdmM) : Prop := ∀ q ∈ A.sch.qs, ∀ f ∈ q, okC A.clients f
end Adm
namespace Adm
open Go Vg T Api Sched Conf
attribute [local irreducible] VO VC VA
theorem newA_calls (c : ConfM) : (newA c).Calls := by
 intro q hq g hg
 simp only [newA, SchM.qs, SchM.new, List.map_map, List.mem_map] at hq
 obtain ⟨x, _, rfl⟩ := hq
 simp [clsNew] at hg
end Adm
namespace Rep
open Go Vg T Api Kv Ch Lg Rd Win Adm
attribute [local irreducible] VO VC VA
abbrev repT : TypeId := 127
structure RepM where
 id : Int
 clients : Int
 cap : Int
 most : Int
 ch : ChM
 since : Int
 whole : Bool
 log : List EntryM
 win : WinM
 adm : AdmM
 rds : RdsM
 start : Int
 base : Int
 linked : Bool
 have_ : Int
structure RepS where
 a : Option Addr
 c : Nat
 lp : Nat
 wp : Nat
 ap : Nat
 rp : Nat
def repCs (R : RepM) (x : RepS) : List Value := [.int .i64 R.id, .int .i64 R.clients, .int .i64 R.cap, .int .i64 R.most, .int .i64 R.ch.epoch, .slice x.a R.ch.ms.length x.c, .int .i64 R.ch.drain, .int .i64 R.since, .bool R.whole,
 .pointer (some ⟨x.lp, 0, none⟩), .pointer (some ⟨x.wp, 0, none⟩), .pointer (some ⟨x.ap, 0, none⟩), .pointer (some ⟨x.rp, 0, none⟩), .int .i64 R.start, .int .i64 R.base, .bool R.linked, .int .i64 R.have_]
def repL (p : Nat) (R : RepM) (x : RepS) : List HP := [pt p (repCs R x) repT, slH memT 2 x.a R.ch.ms.length x.c (flat memC R.ch.ms), logH x.lp R.log, winH x.wp R.win, admH x.ap R.adm, rdsH x.rp R.rds]
def repH (p : Nat) (R : RepM) : HP := hex fun x => hsep (repL p R x)
theorem Imp.rep {p : Nat} {R : RepM} {L M : List HP} (x : RepS) (h : Imp L (repL p R x ++ M)) : Imp L (repH p R :: M) :=
 Imp.ex (f := fun x => hsep (repL p R x)) x (Imp.sep (Ls := repL p R x) h)
structure RepIn (Fr : Nat → Prop) (w : World) (p : Nat) (R : RepM) (x : RepS) : Prop where
 blk : Blk Fr w p (repCs R x)
 mem : RwIn memC 2 Fr w x.a R.ch.ms
 log : SatIn Fr [logH x.lp R.log] w
 win : Blk Fr w x.wp R.win.cells
 adm : SatIn Fr [admH x.ap R.adm] w
 rds : SatIn Fr [rdsH x.rp R.rds] w
theorem RepIn.pcs {Fr : Nat → Prop} {w : World} {L : List HP} {p : Nat} {R : RepM} {x : RepS} (h : SatIn Fr L w) (i : Nat) (h0 : L[i]? = some (pt p (repCs R x) repT)) (h1 : L[i + 1]? = some (slH memT 2 x.a R.ch.ms.length x.c (flat memC R.ch.ms)))
  (h2 : L[i + 2]? = some (logH x.lp R.log)) (h3 : L[i + 3]? = some (winH x.wp R.win)) (h4 : L[i + 4]? = some (admH x.ap R.adm)) (h5 : L[i + 5]? = some (rdsH x.rp R.rds)) : RepIn Fr w p R x :=
 ⟨h.blk i h0, RwIn.slH memC_len (h.at_ _ h1), h.at_ _ h2, h.blk _ h3, h.at_ _ h4, h.at_ _ h5⟩
theorem RepIn.of' {Fr : Nat → Prop} {w : World} {p : Nat} {R : RepM} (h : SatIn Fr [repH p R] w) : ∃ x, RepIn Fr w p R x := by
 obtain ⟨x, h⟩ := h.ex
 exact ⟨x, RepIn.pcs h.sep 0 Z Z Z Z Z Z⟩
structure ChS (c : ChM) : Prop where
 len : c.ms.length ≤ 1000
section
variable {p : Nat} {R : RepM} {x : RepS} {b : Nat}
theorem made_spec (h : Blk Fr w p (repCs R x)) : Tri Tryz.prog 60 [.pointer (some ⟨p, 0, none⟩)] Fr w [] (fun v L => v = .bool true ∧ L = []) := by
 refine TF 12 Tryz.func60 Z yj tabOk Z Z ?_
 refine xbf ?_
 refine VG (VO.split 5 rfl rfl (fun _ => ?_) (fun h => by cases h))
 refine xbg ?_
 exact xbl
end
end Rep
namespace Rep
open Go Vg T Api Kv Ch Lg Rd Win Adm
attribute [local irreducible] VO VC VA
section
variable {p : Nat} {R : RepM} {x : RepS} {b : Nat}
end
end Rep
namespace Rep
open Go Vg T Api Kv Ch Lg Rd Win Adm
attribute [local irreducible] VO VC VA
structure RepM.Ok (R : RepM) : Prop where
 ch : ChS R.ch
 win : R.win.Ok
 last : R.win.last = R.log.length
 logc : ∀ e ∈ R.log, 0 ≤ e.client ∧ e.client < 6
 logi : ∀ e ∈ R.log, 1 ≤ e.index ∧ e.index ≤ R.log.length
 rc0 : 1 ≤ R.rds.cap
 rc1 : R.rds.cap ≤ 16
 rl : (R.rds.l.length : Int) ≤ R.rds.cap
 rn0 : 0 ≤ R.rds.last
 rn1 : R.rds.last ≤ 100000000
 rcl : ∀ y ∈ R.rds.l, 0 ≤ y.f.client ∧ y.f.client ≤ 1000
 calls : R.adm.Calls
 wf : R.adm.Wf
section
variable {p : Nat} {R : RepM} {b : Nat}
end
end Rep
namespace Rep
open Go Vg T Api Kv Ch Lg Rd Win Adm
attribute [local irreducible] VO VC VA
section
variable {p : Nat} {R : RepM}
end
end Rep
namespace Rep
open Go Vg T Api Kv Ch Lg Rd Win Adm
attribute [local irreducible] VO VC VA
section
variable {p : Nat} {R : RepM} {b : Nat}
end
end Rep
namespace Rep
open Go Vg T Api Kv Ch Lg Rd Win Adm
attribute [local irreducible] VO VC VA
section
variable {p : Nat} {R : RepM} {b : Nat}
end
end Rep
namespace Rep
open Go Vg T Api Kv Ch Lg Rd Win Adm
attribute [local irreducible] VO VC VA
section
variable {p : Nat} {R : RepM} {b : Nat}
end
section
variable {p : Nat} {R : RepM} {b : Nat}
end
end Rep
namespace Rep
open Go Vg T Api Kv Ch Lg Rd Win Adm Sched
attribute [local irreducible] VO VC VA
section
variable {p : Nat} {R : RepM} {b : Nat}
end
end Rep
namespace Rep
open Go Vg T Api Kv Ch Lg Rd Win Adm Sched
attribute [local irreducible] VO VC VA
section
variable {p : Nat} {R : RepM}
end
end Rep
namespace Rep
open Go Vg T Api Kv Ch Lg Rd Win Adm Sched
attribute [local irreducible] VO VC VA
theorem copied_spec {c : ChM} {a : Option Addr} {cap : Nat} (h : RwIn memC 2 Fr w a c.ms) (hl : c.ms.length ≤ 1000000) : Tri Tryz.prog 64 [.agg (c.cells a cap).toArray] Fr w []
  (fun v L => ∃ a' c', v = .agg (c.cells a' c').toArray ∧ L = [slH memT 2 a' c.ms.length c' (flat memC c.ms)]) := by
 refine TF 8 Tryz.func64 Z yj tabOk Z Z ?_
 refine CS (CG (VG (VB (vs := c.cells a cap) Z (fun b => VG (VO.alloc Z fun d => VG (VN ?_))))))
 refine xbv ?_
 refine xcy ?_
 refine VG (VO.append (m := c.ms.length) (news := flat memC c.ms) 0 Z Z Z Z Z Z Z (RwIn.row memC_len h) (flat_all memC_one _) yx yf fun a' c' _ => ?_)
 rw [Nat.zero_add, List.nil_append]
 refine xbf ?_
 refine VG (VO.st 2 (cs' := c.cells a' c') Z Z Z Z yy Z Z (VG (VN ?_)))
 refine CS (CG (VG (VL 2 (c.cells a' c') Z Z Z Z (VG (VT (vs := c.cells a' c') (cs' := c.cells a' c') 1 Z Z Z Z (NR _) Z Z Z (VG (VN ?_)))))))
 exact xcz
section
variable {p : Nat} {R : RepM} {b : Nat} {c : ChM} {a : Option Addr} {cap : Nat}
end
end Rep
namespace Rep
open Go Vg T Api Kv Ch Lg Rd Win Adm Sched Conf
attribute [local irreducible] VO VC VA
def firstMs (n : Nat) : List MemM := (List.range n).map fun (i : Nat) => ((i : Int), (1 : Int))
theorem firstMs_len (n : Nat) : (firstMs n).length = n := by simp [firstMs]
theorem firstMs_succ (n : Nat) : firstMs (n + 1) = firstMs n ++ [((n : Int), (1 : Int))] := by simp [firstMs, List.range_succ]
def firstC (c : ConfM) : ChM := ⟨1, firstMs c.chain.toNat, -1⟩
def chZ : ChM := ⟨0, [], 0⟩
theorem conf_bounds {c : ConfM} (h : c = fitM c) : (1 ≤ c.nodes ∧ c.nodes ≤ 6) ∧ (1 ≤ c.chain ∧ c.chain ≤ c.nodes) ∧ (1 ≤ c.window ∧ c.window ≤ 16) ∧ (1 ≤ c.reads ∧ c.reads ≤ 16) ∧ (1 ≤ c.clients ∧ c.clients ≤ 6) := by
 have e1 : c.nodes = near c.nodes 1 6 := congrArg ConfM.nodes h
 have e2 : c.chain = near c.chain 1 (near c.nodes 1 6) := congrArg ConfM.chain h
 have e3 : c.window = near c.window 1 16 := congrArg ConfM.window h
 have e4 : c.reads = near c.reads 1 16 := congrArg ConfM.reads h
 have e5 : c.clients = near c.clients 1 6 := congrArg ConfM.clients h
 have n1 := near_in (x := c.nodes) (lo := 1) (hi := 6) yk
 have n2 := near_in (x := c.chain) (lo := 1) (hi := near c.nodes 1 6) n1.1
 have n3 := near_in (x := c.window) (lo := 1) (hi := 16) yk
 have n4 := near_in (x := c.reads) (lo := 1) (hi := 16) yk
 have n5 := near_in (x := c.clients) (lo := 1) (hi := 6) yk
 omega
theorem first_spec (c : ConfM) (a : Option Addr) (cap : Nat) (hq : IntsIn Fr w a c.qs) (ha : AdOk a) (hcap : c.qs.length ≤ cap) : Tri Tryz.prog 76 [.agg (c.cells a cap).toArray] Fr w []
  (fun v L => if c = fitM c then ∃ a' c', v = .tuple #[.agg ((firstC c).cells a' c').toArray, .int .i64 0] ∧ L = [slH memT 2 a' (firstC c).ms.length c' (flat memC (firstC c).ms)] else v = .tuple #[.agg (chZ.cells none 0).toArray, .int .i64 2] ∧ L = []) := by
 refine TF 27 Tryz.func76 Z yj tabOk Z Z ?_
 refine CS (CG (VG (VB (vs := c.cells a cap) Z fun x => VG (VO.alloc Z fun d => ?_))))
 refine xbv ?_
 refine VG (VL 1 (c.cells a cap) Z Z Z Z ?_)
 refine VG (VV (fun Fr w hF hs _ => Conf.check_spec Fr w c a cap (ints_of hq hF hs) ha hcap) Z ?_)
 refine xbf ?_
 refine VC.condNE Z (fun h1 => ?_) (fun h1 => CK ?_)
 ·have hc : ¬ c = fitM c := fun e => h1 (by rw [checkM, if_pos e])
  have hc2 : checkM c = 2 := by rw [checkM, if_neg hc]
  refine xbf ?_
  refine VG (VI (LB (pv := []) (chZ.cells none 0) Z Z Z yj Z) ?_)
  refine xbf ?_
  refine xda ?_
  refine xbf ?_
  refine CR (Ret.cellTmp 2 3 Z Z Z (RdL.many 0 Z Z) Z Imp.nil.ent ?_)
  rw [if_neg hc, hc2]; exact ⟨rfl, rfl⟩
 have hc : c = fitM c := by
  apply Decidable.byContradiction
  intro hc
  rw [checkM, if_neg hc] at h1
  cases h1
 have hb := conf_bounds hc
 refine xbf ?_
 refine VG (VI (LB (pv := [(0, .int .i64 1), (2, .int .i64 (-1))]) [.int .i64 1, .slice none 0 0, .int .i64 (-1)] Z Z Z yj Z) ?_)
 refine xbf ?_
 refine VG (VT (vs := [.int .i64 1, .slice none 0 0, .int .i64 (-1)]) (cs' := [.int .i64 1, .slice none 0 0, .int .i64 (-1)]) 0 Z Z Z Z (NR _) Z Z Z ?_)
 refine xbv ?_
 refine VC.loop (σ := Nat × Option Addr × Nat) (fun y => [(2, pV d), (14, .int .i64 c.chain), (15, .int .i64 y.1)])
  (fun y => [slH memT 2 y.2.1 y.1 y.2.2 (flat memC (firstMs y.1)), pt d [.int .i64 1, .slice y.2.1 y.1 y.2.2, .int .i64 (-1)] chT])
  (fun y => (y.1 : Int) ≤ c.chain) (fun y => c.chain.toNat - y.1) (0, none, 0)
  (by dsimp only; omega) sbZ (Imp.slNil (IP 0 rfl Imp.nil)).ent ?_
 rintro ⟨i, a', c'⟩ hi
 dsimp only at hi ⊢
 refine xbf ?_
 refine CP Z (fun h1 => CK ?_) (fun h1 => CX ?_)
 ·refine xbv ?_
  refine VG (VI (LB (pv := [(0, .int .i64 i), (1, .int .i64 1)]) (memC ((i : Int), 1)) Z Z Z yj Z) ?_)
  refine VG (VO.buildSlice (n := 1) (pv := [(0, .agg (memC ((i : Int), 1)).toArray)]) (memC ((i : Int), 1)) Z Z Z Z yk (fill_one Z Z Z) fun nb => ?_)
  refine VG (VO.append (m := 1) (news := memC ((i : Int), 1)) 1 Z Z Z Z Z Z Z (RdRow.pt 0 Z Z Z) Z (small_bytes (k := 101) yf yk) yf fun a2 c2 hc2 => ?_)
  refine xbf ?_
  refine VG (VO.st 2 (cs' := [.int .i64 1, .slice a2 (i + 1) c2, .int .i64 (-1)]) Z Z Z Z yy Z Z ?_)
  refine zfh ?_
  refine ⟨(i + 1, a2, c2), by dsimp only; omega, by dsimp only; omega, sbZ, ?_⟩
  dsimp only
  rw [firstMs_succ, flat_append, flat_cons, flat_nil, List.append_nil]
  exact (pkZ [0, 1]).ent
 ·obtain rfl : i = c.chain.toNat := by omega
  have e0 : (firstC c).ms.length = c.chain.toNat := firstMs_len _
  have e1 : (firstC c).cells a' c' = [.int .i64 1, .slice a' c.chain.toNat c', .int .i64 (-1)] := by rw [ChM.cells, e0]; rfl
  refine xbf ?_
  refine VG (VL 1 [.int .i64 1, .slice a' c.chain.toNat c', .int .i64 (-1)] Z Z Z Z ?_)
  refine VG (VT (vs := [.int .i64 1, .slice a' c.chain.toNat c', .int .i64 (-1)]) (cs' := [.int .i64 1, .slice a' c.chain.toNat c', .int .i64 (-1)]) 1 Z Z Z Z (NR _) Z Z Z ?_)
  refine xbf ?_
  refine CR (Ret.cellTmp 2 3 Z Z Z (RdL.many 1 Z Z) Z (IP 0 Z Imp.nil).ent ?_)
  rw [if_pos hc, e0]; exact ⟨a', c', by rw [e1]; rfl, rfl⟩
def newR0 (c : ConfM) (id : Int) : RepM := { id := id, clients := c.clients, cap := c.window, most := c.reads, ch := chZ, since := 0, whole := false, log := [], win := WinM.new c.window, adm := newA c, rds := RdsM.new c.reads, start := -1, base := -1, linked := false, have_ := 0 }
def newR (c : ConfM) (id : Int) (blank : Bool) : RepM :=
 if blank then newR0 c id else if (sinceOf (firstC c) id).2 then { newR0 c id with ch := firstC c, since := (sinceOf (firstC c) id).1, whole := true, start := 0 } else { newR0 c id with ch := firstC c }
def newOkB (c : ConfM) (id : Int) : Prop := c = fitM c ∧ 0 ≤ id ∧ id < c.nodes
instance (c : ConfM) (id : Int) : Decidable (newOkB c id) := by unfold newOkB; infer_instance
theorem newR0_ok {c : ConfM} (h : c = fitM c) (id : Int) {C : ChM} (hC : ChS C) (s t : Int) (wh : Bool) : ({ newR0 c id with ch := C, since := s, whole := wh, start := t } : RepM).Ok := by
 have hb := conf_bounds h
 refine ⟨hC, WinM.new_ok hb.2.2.1.1 hb.2.2.1.2, Z, fun e he => absurd he List.not_mem_nil, fun e he => absurd he List.not_mem_nil, hb.2.2.2.1.1, hb.2.2.2.1.2, ?_, Int.le_refl _, (by decide : (0 : Int) ≤ 100000000), fun e he => absurd he List.not_mem_nil, newA_calls c, newA_wf h⟩
 show (0 : Int) ≤ c.reads; omega
theorem firstC_s {c : ConfM} (h : c = fitM c) : ChS (firstC c) := ⟨by have hb := conf_bounds h; show (firstMs _).length ≤ 1000; rw [firstMs_len]; omega⟩
theorem newR_ok {c : ConfM} (h : c = fitM c) (id : Int) (blank : Bool) : (newR c id blank).Ok := by
 unfold newR
 split
 ·exact newR0_ok h id ⟨by decide⟩ 0 (-1) false
 split
 ·exact newR0_ok h id (firstC_s h) _ 0 true
 ·exact newR0_ok h id (firstC_s h) 0 (-1) false
def repV (R : RepM) (a : Option Addr) (c : Nat) (l w d r : Value) : List Value := [.int .i64 R.id, .int .i64 R.clients, .int .i64 R.cap, .int .i64 R.most, .int .i64 R.ch.epoch, .slice a R.ch.ms.length c, .int .i64 R.ch.drain, .int .i64 R.since, .bool R.whole,
 l, w, d, r, .int .i64 R.start, .int .i64 R.base, .bool R.linked, .int .i64 R.have_]
abbrev ptV (b : Nat) : Value := .pointer (some ⟨b, 0, none⟩)
theorem new_spec (c : ConfM) (a : Option Addr) (cap : Nat) (hq : IntsIn Fr w a c.qs) (ha : AdOk a) (hcap : c.qs.length ≤ cap) (id : Int) (blank : Bool) : Tri Tryz.prog 44 [.agg (c.cells a cap).toArray, .int .i64 id, .bool blank] Fr w []
  (fun v L => if newOkB c id then ∃ p, v = .tuple #[.pointer (some ⟨p, 0, none⟩), .int .i64 0] ∧ L = [repH p (newR c id blank)] else v = .tuple #[.pointer none, .int .i64 2] ∧ L = []) := by
 refine TF 93 Tryz.func44 Z yj tabOk Z Z ?_
 refine CS (CG (VG (VB (vs := c.cells a cap) Z fun x => ?_)))
 refine xbf ?_
 refine xbt ?_
 refine VG (VK (Lc := []) (fun Fr w hF hs _ => first_spec Fr w c a cap (ints_of hq hF hs) ha hcap) Z Z ?_)
 intro v L hv
 by_cases hc : c = fitM c
 rotate_left
 ·rw [if_neg hc] at hv
  obtain ⟨rfl, rfl⟩ := hv
  have hno : ¬ newOkB c id := fun h => hc h.1
  refine xbf ?_
  refine VG (VO.alloc Z fun d => ?_)
  refine xda ?_
  refine xbf ?_
  refine xbr ?_
  refine xbj ?_
  refine VG (VY 24 true Z Z ?_)
  refine xbj ?_
  refine zfp ?_
  refine xdb ?_
  rw [if_neg hno]; exact ⟨rfl, rfl⟩
 rw [if_pos hc] at hv
 obtain ⟨a1, c1, rfl, rfl⟩ := hv
 have hb := conf_bounds hc
 have hfl : (firstC c).ms.length ≤ 6 := by show (firstMs _).length ≤ 6; rw [firstMs_len]; omega
 refine xbf ?_
 refine VG (VO.alloc Z fun d => ?_)
 refine VG (VT (vs := (firstC c).cells a1 c1) (cs' := (firstC c).cells a1 c1) 0 Z Z Z Z (NR _) Z Z Z ?_)
 refine xbf ?_
 refine VG (VY 20 false Z Z ?_)
 refine xbj ?_
 by_cases h0 : id < 0
 ·have hno : ¬ newOkB c id := fun h => by have := h.2.1; omega
  refine VG (VY 24 true Z (DT h0) ?_)
  refine xbj ?_
  refine zfp ?_
  refine xdb ?_
  rw [if_neg hno]; exact ⟨rfl, rfl⟩
 refine VG (VY 24 false Z (DF h0) ?_)
 refine xbx ?_
 refine CP Z (fun h1 => ?_) (fun h1 => CK ?_)
 ·have hno : ¬ newOkB c id := fun h => by have := h.2.2; omega
  refine xbf ?_
  refine xdb ?_
  rw [if_neg hno]; exact ⟨rfl, rfl⟩
 have hyes : newOkB c id := ⟨hc, by omega, by omega⟩
 show VC _ _ _ [pt d ((firstC c).cells a1 c1) chT, slH memT 2 a1 (firstC c).ms.length c1 (flat memC (firstC c).ms), pt x (c.cells a cap) _] _
 refine xbw ?_
 refine VG (VI (LB (pv := [(0, .int .i64 id), (1, .int .i64 c.clients), (2, .int .i64 c.window), (3, .int .i64 c.reads), (11, .int .i64 (-1)), (12, .int .i64 (-1))]) (repV (newR0 c id) none 0 (.pointer none) (.pointer none) (.pointer none) (.pointer none)) Z Z Z yj Z) ?_)
 refine VG (VB (vs := repV (newR0 c id) none 0 (.pointer none) (.pointer none) (.pointer none) (.pointer none)) Z fun p => ?_)
 refine xbf ?_
 refine VG (VK (Lc := []) (fun Fr w _ _ _ => Lg.new_spec Fr w) Z Z ?_)
 rintro _ _ ⟨lp, rfl, rfl⟩
 refine xbf ?_
 refine VG (VO.st 1 (cs' := repV (newR0 c id) none 0 (ptV lp) (.pointer none) (.pointer none) (.pointer none)) Z Z Z Z (by show 9 < 17; omega) Z Z ?_)
 (repeat (first|refine zS ?_|refine zR ?_|refine zB ?_|refine zL ?_|refine zC ?_|refine zG (zN ?_)|refine zG (zD 0 rfl rfl rfl rfl ?_)|refine zG (zD 1 rfl rfl rfl rfl ?_)|refine zG (zD 2 rfl rfl rfl rfl ?_)|refine zG (zD 3 rfl rfl rfl rfl ?_)|refine zG (zD 4 rfl rfl rfl rfl ?_)))
 refine VG (VK (Lc := []) (fun Fr w _ _ _ => Win.new_spec Fr w hb.2.2.1.1 hb.2.2.1.2) Z Z ?_)
 rintro _ _ ⟨wp, rfl, rfl⟩
 refine xbf ?_
 refine VG (VO.st 2 (cs' := repV (newR0 c id) none 0 (ptV lp) (ptV wp) (.pointer none) (.pointer none)) Z Z Z Z (by show 10 < 17; omega) Z Z ?_)
 refine xbf ?_
 refine VG (VL 5 (c.cells a cap) Z Z Z Z ?_)
 refine VG (VK (Lc := []) (fun Fr w hF hs _ => Adm.new_spec Fr w c a cap (ints_of hq hF hs) ha hcap) Z Z ?_)
 intro v L hv
 rw [if_pos hc] at hv
 obtain ⟨ap, rfl, rfl⟩ := hv
 refine xbf ?_
 refine VG (VO.st 3 (cs' := repV (newR0 c id) none 0 (ptV lp) (ptV wp) (ptV ap) (.pointer none)) Z Z Z Z (by show 11 < 17; omega) Z Z ?_)
 (repeat (first|refine zS ?_|refine zR ?_|refine zB ?_|refine zL ?_|refine zC ?_|refine zG (zN ?_)|refine zG (zD 0 rfl rfl rfl rfl ?_)|refine zG (zD 1 rfl rfl rfl rfl ?_)|refine zG (zD 2 rfl rfl rfl rfl ?_)|refine zG (zD 3 rfl rfl rfl rfl ?_)|refine zG (zD 4 rfl rfl rfl rfl ?_)|refine zG (zD 5 rfl rfl rfl rfl ?_)|refine zG (zD 6 rfl rfl rfl rfl ?_)))
 refine VG (VK (Lc := []) (fun Fr w _ _ _ => Rd.new_spec Fr w hb.2.2.2.1.1 hb.2.2.2.1.2) Z Z ?_)
 rintro _ _ ⟨rp, rfl, rfl⟩
 refine xbf ?_
 refine VG (VO.st 4 (cs' := repCs (newR0 c id) ⟨none, 0, lp, wp, ap, rp⟩) Z Z Z Z (by show 12 < 17; omega) Z Z ?_)
 refine xbf ?_
 refine CN (L' := [pt p (repCs (newR0 c id) ⟨none, 0, lp, wp, ap, rp⟩) repT, logH lp [], winH wp (WinM.new c.window), admH ap (newA c), rdsH rp (RdsM.new c.reads), pt d ((firstC c).cells a1 c1) chT, slH memT 2 a1 (firstC c).ms.length c1 (flat memC (firstC c).ms)]) (pkZ [4, 3, 2, 1, 0, 0, 0]).ent ?_
 refine CC Z (fun hbl => ?_) (fun hbl => CK ?_)
 ·refine xbf ?_
  refine CR (Ret.tmp2 6 7 Z Z Z (L' := [repH p (newR c id blank)]) ?_ yz)
  rw [show newR c id blank = newR0 c id by rw [newR, if_pos hbl]]
  exact (Imp.rep (R := newR0 c id) ⟨none, 0, lp, wp, ap, rp⟩ (IP 0 Z (Imp.slNil (pkZ [0, 0, 0, 0])))).ent
 refine xbf ?_
 refine VG (VL 5 ((firstC c).cells a1 c1) Z Z Z Z ?_)
 refine xbf ?_
 refine VG (VT (vs := (firstC c).cells a1 c1) (cs' := repCs { newR0 c id with ch := firstC c } ⟨a1, c1, lp, wp, ap, rp⟩) 0 Z Z Z Z (by show 4 + 3 ≤ 17; omega) Z Z Z ?_)
 refine xbf ?_
 refine VG (VL 5 ((firstC c).cells a1 c1) Z Z Z Z ?_)
 refine xbf ?_
 refine VG (VV (fun Fr w hF hs hS => Ch.since_spec Fr w (RwIn.slH memC_len (hS.at_ 6 Z)) yf id) Z ?_)
 refine xbf ?_
 refine VC.meetS (σ := Unit) (fun _ => [(10, ptV p)]) (fun _ => [repH p (newR c id blank)]) (fun _ => True) ?_ ?_
 ·refine CC Z (fun hs => ?_) (fun hs => CK ?_)
  ·refine xbf ?_
   refine VG (VO.st 0 (cs' := repCs { newR0 c id with ch := firstC c, since := (sinceOf (firstC c) id).1 } ⟨a1, c1, lp, wp, ap, rp⟩) Z Z Z Z (by show 7 < 17; omega) Z Z ?_)
   refine xbf ?_
   refine VG (VO.st 0 (cs' := repCs { newR0 c id with ch := firstC c, since := (sinceOf (firstC c) id).1, whole := true } ⟨a1, c1, lp, wp, ap, rp⟩) Z Z Z Z (by show 8 < 17; omega) Z Z ?_)
   refine xbf ?_
   refine VG (VO.st 0 (cs' := repCs { newR0 c id with ch := firstC c, since := (sinceOf (firstC c) id).1, whole := true, start := 0 } ⟨a1, c1, lp, wp, ap, rp⟩) Z Z Z Z (by show 13 < 17; omega) Z Z ?_)
   refine xbf ?_
   refine ⟨(), trivial, sbZ, ?_⟩
   dsimp only
   rw [show newR c id blank = { newR0 c id with ch := firstC c, since := (sinceOf (firstC c) id).1, whole := true, start := 0 } by rw [newR, if_neg (by rw [hbl]; simp), if_pos hs]]
   exact (Imp.rep (R := { newR0 c id with ch := firstC c, since := (sinceOf (firstC c) id).1, whole := true, start := 0 }) ⟨a1, c1, lp, wp, ap, rp⟩ (pkZ [0, 5, 0, 0, 0, 0])).ent
  ·refine ⟨(), trivial, sbZ, ?_⟩
   dsimp only
   rw [show newR c id blank = { newR0 c id with ch := firstC c } by rw [newR, if_neg (by rw [hbl]; simp), if_neg (by rw [hs]; simp)]]
   exact (Imp.rep (R := { newR0 c id with ch := firstC c }) ⟨a1, c1, lp, wp, ap, rp⟩ (pkZ [0, 5, 0, 0, 0, 0])).ent
 rintro _ -
 refine xbf ?_
 exact CR (Ret.tmp2 6 7 Z Z Z ER yz)
end Rep
namespace Rep
open Go Vg T Api Kv Ch Lg Rd Win Adm Sched Conf
attribute [local irreducible] VO VC VA
end Rep
namespace Rep
open Go Vg T Api Kv Ch Lg Rd Win Adm Sched Conf
attribute [local irreducible] VO VC VA
section
variable {p : Nat} {R : RepM}
end
end Rep
namespace Rep
open Go Vg T Api Kv Ch Lg Rd Win Adm Sched Conf
attribute [local irreducible] VO VC VA
section
variable {p : Nat} {R : RepM}
theorem rsince_spec (h : SatIn Fr [repH p R] w) : Tri Tryz.prog 28 [.pointer (some ⟨p, 0, none⟩)] Fr w [] (fun v L => v = .int .i64 R.since ∧ L = []) := by
 obtain ⟨x, hx⟩ := RepIn.of' h
 have hb := hx.blk
 refine TF 10 Tryz.func28 Z yj tabOk Z Z ?_
 refine xbf ?_
 refine VG (VV (fun Fr w hF hs _ => made_spec Fr w (hb.of hF hs)) Z (VG (VN (VC.condF Z (CK ?_)))))
 refine xbo ?_
 exact xbi
theorem log_spec (ok : R.Ok) (h : SatIn Fr [repH p R] w) : Tri Tryz.prog 34 [.pointer (some ⟨p, 0, none⟩)] Fr w [] (fun v L => ∃ q, v = .pointer (some ⟨q, 0, none⟩) ∧ L = [logH q R.log]) := by
 obtain ⟨x, hx⟩ := RepIn.of' h
 have hb := hx.blk
 have hl := hx.log
 have h1 := ok.last; have h2 := ok.win.last1
 refine TF 11 Tryz.func34 Z yj tabOk Z Z ?_
 refine xbf ?_
 refine VG (VV (fun Fr w hF hs _ => made_spec Fr w (hb.of hF hs)) Z (VG (VN (VC.condF Z (CK ?_)))))
 refine xbo ?_
 refine VG (VK (Lc := []) (fun Fr w hF hs _ => Lg.copy_spec Fr w (hl.of hF hs) yf) Z Z ?_)
 rintro _ _ ⟨q, rfl, rfl⟩
 exact zfw
theorem window_spec (ok : R.Ok) (h : SatIn Fr [repH p R] w) : Tri Tryz.prog 29 [.pointer (some ⟨p, 0, none⟩)] Fr w [] (fun v L => ∃ q, v = .pointer (some ⟨q, 0, none⟩) ∧ L = [winH q R.win]) := by
 obtain ⟨x, hx⟩ := RepIn.of' h
 have hb := hx.blk
 have hl := hx.win
 refine TF 11 Tryz.func29 Z yj tabOk Z Z ?_
 refine xbf ?_
 refine VG (VV (fun Fr w hF hs _ => made_spec Fr w (hb.of hF hs)) Z (VG (VN (VC.condF Z (CK ?_)))))
 refine xbo ?_
 refine VG (VK (Lc := []) (fun Fr w hF hs _ => Win.copy_spec Fr w (hl.of hF hs) ok.win.cap0) Z Z ?_)
 rintro _ _ ⟨q, rfl, rfl⟩
 exact zfw
theorem chain_spec (ok : R.Ok) (h : SatIn Fr [repH p R] w) : Tri Tryz.prog 32 [.pointer (some ⟨p, 0, none⟩)] Fr w [] (fun v L => ∃ a c, v = .agg (R.ch.cells a c).toArray ∧ L = [slH memT 2 a R.ch.ms.length c (flat memC R.ch.ms)]) := by
 obtain ⟨x, hx⟩ := RepIn.of' h
 have hb := hx.blk
 have hm := hx.mem
 have hl := ok.ch.len
 refine TF 12 Tryz.func32 Z yj tabOk Z Z ?_
 refine CS (CG (VG (VO.alloc Z fun d => ?_)))
 refine xbf ?_
 refine VG (VV (fun Fr w hF hs _ => made_spec Fr w (hb.of hF hs)) Z (VG (VN (VC.condF Z (CK ?_)))))
 refine xbf ?_
 refine VG (VD Z Z (RdL.blkA (ds := R.ch.cells x.a x.c) hb Z) ?_)
 refine VG (VK (Lc := []) (fun Fr w hF hs _ => copied_spec Fr w (hm.of hF hs) yf) Z Z ?_)
 rintro _ _ ⟨a', c', rfl, rfl⟩
 refine VG (VT (vs := R.ch.cells a' c') (cs' := R.ch.cells a' c') 1 Z Z Z Z (NR _) Z Z Z ?_)
 refine xbf ?_
 exact xcz
theorem reading_spec (ok : R.Ok) (h : SatIn Fr [repH p R] w) : Tri Tryz.prog 31 [.pointer (some ⟨p, 0, none⟩)] Fr w [] (fun v L => v = .int .i64 R.rds.l.length ∧ L = []) := by
 obtain ⟨x, hx⟩ := RepIn.of' h
 have hb := hx.blk
 have hl := hx.rds
 refine TF 11 Tryz.func31 Z yj tabOk Z Z ?_
 refine xbf ?_
 refine VG (VV (fun Fr w hF hs _ => made_spec Fr w (hb.of hF hs)) Z (VG (VN (VC.condF Z (CK ?_)))))
 refine xbo ?_
 refine VG (VV (fun Fr w hF hs _ => Rd.len_spec Fr w (hl.of hF hs) ok.rc0) Z ?_)
 refine xbf ?_
 exact xbi
theorem waiting_spec (h : SatIn Fr [repH p R] w) (k : Int) : Tri Tryz.prog 33 [.pointer (some ⟨p, 0, none⟩), .int .i64 k] Fr w [] (fun v L => v = .int .i64 (R.adm.sch.lenM k) ∧ L = []) := by
 obtain ⟨x, hx⟩ := RepIn.of' h
 have hb := hx.blk
 have hl := hx.adm
 refine TF 14 Tryz.func33 Z yj tabOk Z Z ?_
 refine xbf ?_
 refine VG (VV (fun Fr w hF hs _ => made_spec Fr w (hb.of hF hs)) Z (VG (VN (VC.condF Z (CK ?_)))))
 refine xbo ?_
 refine VG (VV (fun Fr w hF hs _ => Adm.len_spec Fr w k (hl.of hF hs)) Z ?_)
 refine xbf ?_
 exact CR (Ret.int 4 Z Z Z ER ⟨rfl, Z⟩)
end
end Rep
namespace Rep
open Go Vg T Api Kv Ch Lg Rd Win Adm Sched Conf
attribute [local irreducible] VO VC VA
theorem HOpn.one {α : Type} {c : α → List Value} {n : Nat} (el : Nat) (a : Option Addr) (cap : Nat) (x : α) : HOpn (ι := Nat × List Value) (slH el n a [x].length cap (flat c [x])) (fun y => a = some ⟨y.1, 0, none⟩) (fun y => [pt y.1 (c x ++ y.2) el]) := by
 intro w ids h hn
 obtain ⟨y, hy, ids', h1, h2, h3⟩ := HOpn.sl el n a 1 cap (flat c [x]) w ids h hn
 cases y with
 | none => obtain ⟨_, _, _, h, _⟩ := hy; cases h
 | some y =>
  obtain ⟨b, rest⟩ := y
  obtain ⟨_, _, h7, _⟩ := hy
  refine ⟨(b, rest), h7, ids', ?_, h2, h3⟩
  simp only [flat_cons, flat_nil, List.append_nil] at h1
  exact h1
theorem rw_one {α : Type} {c : α → List Value} {n : Nat} (hc : ∀ x, (c x).length = n) {Fr : Nat → Prop} {w : World} {b : Nat} {x : α} {rest : List Value} (h : Blk Fr w b (c x ++ rest)) : RwIn c n Fr w (some ⟨b, 0, none⟩) [x] :=
 RwIn.blk h fun i y hy => by
  cases i with
  | zero =>
   simp only [List.getElem?_cons_zero, Option.some.injEq] at hy
   subst hy
   rw [Nat.zero_mul, Nat.add_zero, List.drop_zero, List.take_append_of_le_length (by rw [hc]; exact NR _), List.take_of_length_le (by rw [hc]; exact NR _)]
  | succ i => simp at hy
end Rep
namespace Au
open Go Vg Api Kv Ch Lg Conf Rep
deriving instance DecidableEq for ChM
deriving instance DecidableEq for OpM
deriving instance DecidableEq for EntryM
abbrev FindM := Int × Int × Int
def fdC (f : FindM) : List Value := [.int .i64 f.1, .int .i64 f.2.1, .int .i64 f.2.2]
theorem fdC_len (f : FindM) : (fdC f).length = 3 := rfl
structure AudN where
 id : Int
 since : Int
 done : Int
 reading : Int
 ch : ChM
 waits : List Int
 log : List EntryM
abbrev TriM := Int × Int × Int
structure AudV where
 ch : ChM
 nodes : List AudN
 done : List EntryM
 mail : List TriM
def partM : List EntryM → List EntryM → Nat
 | a :: xs, b :: ys => if a = b then partM xs ys + 1 else 0
 | _, _ => 0
theorem partM_le : ∀ a b : List EntryM, partM a b ≤ a.length ∧ partM a b ≤ b.length
 | [], _ => ⟨Nat.zero_le _, Nat.zero_le _⟩
 | _ :: _, [] => ⟨Nat.zero_le _, Nat.zero_le _⟩
 | a :: xs, b :: ys => by
  have ih := partM_le xs ys
  unfold partM
  simp only [List.length_cons]
  split <;> omega
theorem partM_same : ∀ (a b : List EntryM) {i : Nat}, i < partM a b → a[i]? = b[i]?
 | [], _, i, h => by simp [partM] at h
 | _ :: _, [], i, h => by simp [partM] at h
 | a :: xs, b :: ys, i, h => by
  unfold partM at h
  split at h
  ·rename_i e
   cases i with
   | zero => simp [e]
   | succ i => simpa using partM_same xs ys (i := i) yf
  ·omega
theorem partM_not : ∀ (a b : List EntryM) {x y : EntryM}, a[partM a b]? = some x → b[partM a b]? = some y → x ≠ y
 | [], _, x, y, h, _ => by simp [partM] at h
 | _ :: _, [], x, y, _, h => by simp [partM] at h
 | a :: xs, b :: ys, x, y, h, k => by
  unfold partM at h k
  by_cases e : a = b
  ·rw [if_pos e] at h k
   exact partM_not xs ys yd (by simpa using k)
  ·rw [if_neg e] at h k
   simp at h k
   rw [← h, ← k]; exact e
theorem partM_is {a b : List EntryM} {i : Nat} (ha : i ≤ a.length) (hb : i ≤ b.length) (h : ∀ j, j < i → a[j]? = b[j]?) (hn : ∀ x y, a[i]? = some x → b[i]? = some y → x ≠ y) : partM a b = i := by
 have hl := partM_le a b
 rcases Nat.lt_trichotomy (partM a b) i with h1 | h1 | h1
 ·exfalso
  obtain ⟨x, hx⟩ : ∃ x, a[partM a b]? = some x := ⟨_, GE yf⟩
  obtain ⟨y, hy⟩ : ∃ y, b[partM a b]? = some y := ⟨_, GE yf⟩
  have := h _ h1
  rw [hx, hy] at this
  exact partM_not a b hx hy (Option.some.inj this)
 ·exact h1
 ·exfalso
  obtain ⟨x, hx⟩ : ∃ x, a[i]? = some x := ⟨_, GE yf⟩
  obtain ⟨y, hy⟩ : ∃ y, b[i]? = some y := ⟨_, GE yf⟩
  have := partM_same a b h1
  rw [hx, hy] at this
  exact hn x y hx hy (Option.some.inj this)
def ifF (b : Prop) [Decidable b] (f : FindM) : List FindM := if b then [f] else []
def queM (c : ConfM) (n : AudN) (k : Nat) : List FindM := (List.range k).flatMap fun i : Nat => match n.waits[i]? with
 | some q => ifF (c.queue < q) (7, n.id, (i : Int))
 | none => []
theorem queM_succ (c : ConfM) (n : AudN) (k : Nat) : queM c n (k + 1) = queM c n k ++ (match n.waits[k]? with | some q => ifF (c.queue < q) (7, n.id, (k : Int)) | none => []) := by
 unfold queM
 rw [List.range_succ, List.flatMap_append]; simp
theorem queM_out (c : ConfM) (n : AudN) {k : Nat} (h : n.waits.length ≤ k) : queM c n k = queM c n n.waits.length := by
 obtain ⟨j, rfl⟩ : ∃ j, k = n.waits.length + j := ⟨k - n.waits.length, by omega⟩
 induction j with
 | zero => rfl
 | succ j ih =>
  rw [← Nat.add_assoc, queM_succ, ih yf, List.getElem?_eq_none yf]; simp
theorem queM_len (c : ConfM) (n : AudN) (k : Nat) : (queM c n k).length ≤ k := by
 induction k with
 | zero => exact NR _
 | succ k ih =>
  rw [queM_succ, List.length_append]
  have : ∀ o : Option Int, (match o with | some q => ifF (c.queue < q) (7, n.id, (k : Int)) | none => []).length ≤ 1 := fun o => by
   cases o with
   | none => exact Nat.zero_le _
   | some q => show (ifF _ _).length ≤ 1; unfold ifF; split <;> simp
  have := this n.waits[k]?
  omega
def aloA (ch : ChM) (n : AudN) : List FindM := ifF (ch.epoch < n.ch.epoch ∨ n.ch.epoch = ch.epoch ∧ n.ch ≠ ch) (2, n.id, n.ch.epoch)
def aloB (c : ConfM) (ch : ChM) (n : AudN) : List FindM := aloA ch n ++ ifF (n.done < (n.log.length : Int) - c.window) (3, n.id, (n.log.length : Int))
def aloC (c : ConfM) (ch : ChM) (n : AudN) : List FindM := aloB c ch n ++ ifF (n.done < 0 ∨ (n.log.length : Int) < n.done) (4, n.id, n.done)
def aloneM (c : ConfM) (ch : ChM) (n : AudN) : List FindM := aloC c ch n ++ queM c n c.qs.length ++ ifF (c.reads < n.reading) (8, n.id, n.reading)
theorem ifF_len (b : Prop) [Decidable b] (f : FindM) : (ifF b f).length ≤ 1 := by unfold ifF; split <;> simp
theorem aloneM_len (c : ConfM) (ch : ChM) (n : AudN) : (aloneM c ch n).length ≤ c.qs.length + 4 := by
 unfold aloneM aloC aloB aloA
 simp only [List.length_append]
 have := queM_len c n c.qs.length
 have h1 := ifF_len (ch.epoch < n.ch.epoch ∨ n.ch.epoch = ch.epoch ∧ n.ch ≠ ch) (2, n.id, n.ch.epoch)
 have h2 := ifF_len (n.done < (n.log.length : Int) - c.window) (3, n.id, (n.log.length : Int))
 have h3 := ifF_len (n.done < 0 ∨ (n.log.length : Int) < n.done) (4, n.id, n.done)
 have h4 := ifF_len (c.reads < n.reading) (8, n.id, n.reading)
 omega
def seenM (l : List AudN) (id : Int) : Option AudN := l.find? fun n => n.id == id
def togO (n : AudN) (ah : Option AudN) : List FindM := match ah with
 | some a => ifF (partM n.log a.log < n.log.length) (5, n.id, (partM n.log a.log : Int))
 | none => []
def togL (n : AudN) (done : List EntryM) : List FindM := ifF (partM n.log done < n.log.length ∧ partM n.log done < done.length) (6, n.id, (partM n.log done : Int))
abbrev TogS := List FindM × Option AudN
def stepT (v : AudV) (s : TogS) (m : MemM) : TogS := match seenM v.nodes m.1 with
 | some n => if n.since = m.2 then (s.1 ++ togO n s.2 ++ togL n v.done, some n) else s
 | none => s
def togM (v : AudV) (k : Nat) (l : List FindM) : TogS := (v.ch.ms.take k).foldl (stepT v) (l, none)
theorem togM_succ (v : AudV) {k : Nat} {m : MemM} (h : v.ch.ms[k]? = some m) (l : List FindM) : togM v (k + 1) l = stepT v (togM v k l) m := by
 unfold togM
 rw [List.take_add_one, h, List.foldl_append]; rfl
theorem togM_len (v : AudV) (k : Nat) : (togM v k []).1.length ≤ 2 * k := by
 have : ∀ (ms : List MemM) (s : TogS), (ms.foldl (stepT v) s).1.length ≤ s.1.length + 2 * ms.length := by
  intro ms
  induction ms with
  | nil => intro s; exact NR _
  | cons m ms ih =>
   intro s
   rw [List.foldl_cons]
   have h1 := ih (stepT v s m)
   have h2 : (stepT v s m).1.length ≤ s.1.length + 2 := by
    unfold stepT
    split
    ·split
     ·simp only [List.length_append]
      rename_i n _ _
      have a1 : (togO n s.2).length ≤ 1 := by unfold togO; split; exact ifF_len _ _; exact Nat.zero_le _
      have a2 : (togL n v.done).length ≤ 1 := ifF_len _ _
      omega
     ·omega
    ·omega
   rw [List.length_cons]; omega
 have h := this (v.ch.ms.take k) ([], none)
 have h2 := List.length_take_le k v.ch.ms
 show ((v.ch.ms.take k).foldl (stepT v) ([], none)).1.length ≤ _
 simp only [List.length_nil] at h
 omega
def mailM (c : ConfM) (l : List TriM) : List FindM := l.flatMap fun m => ifF (c.link < m.2.2) (9, m.1, m.2.1)
def goodM (v : AudV) : Bool := chE v.ch == 0
def chkA (v : AudV) : List FindM := ifF (¬ goodM v = true) (1, 0, 0)
def chkB (c : ConfM) (v : AudV) (k : Nat) : List FindM := chkA v ++ (v.nodes.take k).flatMap (aloneM c v.ch)
def chkC (c : ConfM) (v : AudV) : List FindM := chkB c v v.nodes.length ++ if goodM v then (togM v v.ch.ms.length []).1 else []
def chkD (c : ConfM) (v : AudV) (k : Nat) : List FindM := chkC c v ++ mailM c (v.mail.take k)
def audM (c : ConfM) (v : AudV) : List FindM := if c = fitM c then chkD c v v.mail.length else []
theorem chkB_succ (c : ConfM) (v : AudV) {k : Nat} {n : AudN} (h : v.nodes[k]? = some n) : chkB c v (k + 1) = chkB c v k ++ aloneM c v.ch n := by
 unfold chkB
 rw [List.take_add_one, h, List.flatMap_append, List.append_assoc]; simp
theorem chkD_succ (c : ConfM) (v : AudV) {k : Nat} {m : TriM} (h : v.mail[k]? = some m) : chkD c v (k + 1) = chkD c v k ++ ifF (c.link < m.2.2) (9, m.1, m.2.1) := by
 unfold chkD mailM
 rw [List.take_add_one, h, List.flatMap_append, List.append_assoc]; simp
def apartM (a b : List EntryM) : Int := if partM a b < a.length ∧ partM a b < b.length then (partM a b : Int) else -1
theorem apart_log (n : AudN) (done : List EntryM) : (if 0 ≤ apartM n.log done then [((6, n.id, apartM n.log done) : FindM)] else []) = togL n done := by
 unfold togL ifF apartM
 by_cases h : partM n.log done < n.log.length ∧ partM n.log done < done.length
 ·rw [if_pos h, if_pos h, if_pos yf]
 ·rw [if_neg h, if_neg h, if_neg yk]
def orderM (a b : List EntryM) : Int := if apartM a b < 0 ∧ b.length < a.length then (b.length : Int) else apartM a b
theorem order_is (a b : List EntryM) : (0 ≤ orderM a b ↔ partM a b < a.length) ∧ (partM a b < a.length → orderM a b = partM a b) := by
 have hl := partM_le a b
 unfold orderM apartM
 by_cases h : partM a b < a.length ∧ partM a b < b.length
 ·rw [if_pos h, if_neg yf]; omega
 ·rw [if_neg h]
  by_cases h2 : (-1 : Int) < 0 ∧ b.length < a.length
  ·rw [if_pos h2]; omega
  ·rw [if_neg h2]; omega
end Au
namespace Conf
open Go Vg T Sched
attribute [local irreducible] VO VC VA
def win (x lo hi : Int) : Bool := decide (lo ≤ x) && decide (x ≤ hi)
theorem within_spec (x lo hi : Int) : Tri Tryz.prog 53 [.int .i64 x, .int .i64 lo, .int .i64 hi] Fr w [] (fun v L => v = .bool (win x lo hi) ∧ L = []) := by
 refine TF 15 Tryz.func53 Z yj tabOk Z Z ?_
 refine xbf ?_
 refine VG (VO.split 10 Z Z (fun h1 => ?_) (fun h1 => ?_))
 ·refine xbf ?_
  exact CR (Ret.bool 6 Z Z (by simp only [win, h1, Bool.true_and]) ER ⟨rfl, Z⟩)
 ·refine xbf ?_
  exact CR (Ret.bool 6 Z Z (by simp only [win, h1, Bool.false_and]) ER ⟨rfl, Z⟩)
def pre1 (c : ConfM) : Bool := win c.nodes 1 6 && win c.chain 1 c.nodes && win c.clients 1 6 && win c.qs.length 1 4
def pre2 (c : ConfM) : Bool := pre1 c && c.qs.all fun q => win q 96 65536
def rokM (c : ConfM) : Bool := pre2 c && win c.queue 1 16 && win c.window 1 16 && win c.reads 1 16 && win c.link 4 64 && win c.patience 4 64 && win c.timeout 4 64 && win c.budget 0 16 && win c.refill 1 1099511627776
theorem near_iff {x lo hi : Int} (h : lo ≤ hi) : x = near x lo hi ↔ win x lo hi = true := by
 simp only [win, Bool.and_eq_true, decide_eq_true_eq]
 exact ⟨fun e => by have := near_in (x := x) h; omega, fun ⟨h1, h2⟩ => (near_same h1 h2).symm⟩
theorem qFit_iff {qs : List Int} : qs = qFit qs ↔ win qs.length 1 4 = true ∧ (qs.all fun q => win q 96 65536) = true := by
 constructor
 ·intro e
  have hl := qFit_len qs
  rw [← e] at hl
  refine ⟨by simp [win]; omega, ?_⟩
  rw [List.all_eq_true]
  intro q hq
  rw [e] at hq
  obtain ⟨y, _, rfl⟩ := List.mem_map.1 hq
  have := near_in (x := y) (lo := 96) (hi := 65536) yf
  simp [win, qNear, this]
 ·rintro ⟨h1, h2⟩
  simp only [win, Bool.and_eq_true, decide_eq_true_eq] at h1
  have e : qs.take 4 = qs := List.take_of_length_le yf
  have hne : qs ≠ [] := fun e => by rw [e] at h1; simp at h1
  unfold qFit qFirst
  rw [e, if_neg hne]
  rw [List.all_eq_true] at h2
  have : ∀ x ∈ qs, qNear x = x := fun x hx => ((near_iff yf).2 (h2 x hx)).symm
  rw [List.map_congr_left this]; simp
theorem rok_iff (c : ConfM) : c = fitM c ↔ rokM c = true := by
 simp only [rokM, pre2, pre1, Bool.and_eq_true]
 rw [← near_iff (x := c.nodes) yf, ← near_iff (x := c.clients) yf, ← near_iff (x := c.queue) yf, ← near_iff (x := c.window) yf, ← near_iff (x := c.reads) yf, ← near_iff (x := c.link) yf, ← near_iff (x := c.patience) yf, ← near_iff (x := c.timeout) yf, ← near_iff (x := c.budget) yf, ← near_iff (x := c.refill) yf]
 constructor
 ·intro e
  have hn : c.nodes = near c.nodes 1 6 := congrArg ConfM.nodes e
  have hn1 := near_in (x := c.nodes) (lo := 1) (hi := 6) yf
  have hch : c.chain = near c.chain 1 (near c.nodes 1 6) := congrArg ConfM.chain e
  rw [← hn] at hch hn1
  have hqs : c.qs = qFit c.qs := congrArg ConfM.qs e
  obtain ⟨hq1, hq2⟩ := qFit_iff.1 hqs
  exact ⟨⟨⟨⟨⟨⟨⟨⟨⟨⟨⟨⟨hn, (near_iff hn1.1).1 hch⟩, congrArg ConfM.clients e⟩, hq1⟩, hq2⟩, congrArg ConfM.queue e⟩, congrArg ConfM.window e⟩, congrArg ConfM.reads e⟩, congrArg ConfM.link e⟩, congrArg ConfM.patience e⟩, congrArg ConfM.timeout e⟩, congrArg ConfM.budget e⟩, congrArg ConfM.refill e⟩
 ·rintro ⟨⟨⟨⟨⟨⟨⟨⟨⟨⟨⟨⟨hn, hch⟩, hcl⟩, hq1⟩, hq2⟩, h4⟩, h5⟩, h6⟩, h7⟩, h8⟩, h9⟩, h10⟩, h11⟩
  have hn1 := near_in (x := c.nodes) (lo := 1) (hi := 6) yf
  have hch2 : c.chain = near c.chain 1 (near c.nodes 1 6) := by
   rw [← hn] at hn1 ⊢; exact (near_iff hn1.1).2 hch
  exact conf_ext hn hch2 hcl (qFit_iff.2 ⟨hq1, hq2⟩) h4 h5 h6 h7 h8 h9 h10 h11
theorem rcheck_spec (c : ConfM) (a : Option Addr) (cap : Nat) (hq : IntsIn Fr w a c.qs) (hl : c.qs.length ≤ 1000) : Tri Tryz.prog 19 [.agg (c.cells a cap).toArray] Fr w []
  (fun v L => v = .int .i64 (checkM c) ∧ L = []) := by
 refine TF 85 Tryz.func19 Z yj tabOk Z Z ?_
 refine CS (CG (VG (VB (vs := c.cells a cap) Z fun x => VG (VN ?_))))
 refine VC.meet (σ := Bool) (fun b => [(1, pV x), (3, .bool b)]) (fun _ => [pt x (c.cells a cap) 24]) (fun b => b = pre1 c) ?_ ?_
 ·refine CG ?_
  refine zfi ?_
  refine VG (VO.split 8 Z Z (fun h0 => ?_) (fun h0 => ?_))
  rotate_left
  ·refine VG (VY 15 false Z Z ?_)
   refine VG (VY 20 false Z Z ?_)
   refine VG (VN ⟨false, ?_, sbZ, ER⟩)
   show false = pre1 c
   simp only [pre1, h0, Bool.and_false, Bool.false_and]
  refine zfi ?_
  refine VG (VO.split 15 Z Z (fun h1 => ?_) (fun h1 => ?_))
  rotate_left
  ·refine VG (VY 20 false Z Z ?_)
   refine VG (VN ⟨false, ?_, sbZ, ER⟩)
   show false = pre1 c
   simp only [pre1, h1, Bool.and_false, Bool.false_and]
  refine zfi ?_
  refine VG (VO.split 20 Z Z (fun h2 => ?_) (fun h2 => ?_))
  rotate_left
  ·refine VG (VN ⟨false, ?_, sbZ, ER⟩)
   show false = pre1 c
   simp only [pre1, h2, Bool.and_false, Bool.false_and]
  refine zfi ?_
  refine VG (VN ⟨win c.qs.length 1 4, ?_, sbZ, ER⟩)
  show _ = pre1 c
  simp only [pre1, h0, h1, h2, Bool.true_and]
 rintro b0 hb0
 refine VC.meet (σ := Bool) (fun b => [(1, pV x), (3, .bool b)]) (fun _ => [pt x (c.cells a cap) 24]) (fun b => b = pre2 c) ?_ ?_
 ·refine xbf ?_
  refine VC.loop (σ := Nat × Bool) (fun y => [(1, pV x), (3, .bool y.2), (4, .int .i64 y.1)]) (fun _ => [pt x (c.cells a cap) 24]) (fun y => y.1 ≤ c.qs.length ∧ y.2 = (pre1 c && (c.qs.take y.1).all fun q => win q 96 65536)) (fun y => c.qs.length - y.1) (0, b0) ⟨Nat.zero_le _, by simp [hb0]⟩ sbZ ER ?_
  rintro ⟨i, b⟩ ⟨hi, hb⟩
  dsimp only at hi hb ⊢
  refine xbf ?_
  refine CP Z (fun h1 => CK ?_) (fun h1 => CX ?_)
  ·have hi2 : i < c.qs.length := by omega
   obtain ⟨qb, qo, hqa, hFq, hcq⟩ := hq.at_ (fun e => by rw [e] at hi2; simp at hi2)
   have hy := GE hi2
   generalize c.qs[i] = y at hy
   have hsl : some (Value.slice a c.qs.length cap) = some (Value.slice (some ⟨qb, qo, none⟩) c.qs.length cap) := by rw [hqa]
   have hall : ((c.qs.take (i + 1)).all fun q => win q 96 65536) = (((c.qs.take i).all fun q => win q 96 65536) && win y 96 65536) := by rw [List.take_add_one, hy, List.all_append]; simp
   refine xbf ?_
   refine VG (VO.split 34 Z Z (fun h2 => ?_) (fun h2 => VG (VN ?_)))
   ·subst h2
    refine xbf ?_
    refine VG (VI (light_idx i hsl Z Z Z Z Z hi2) ?_)
    refine VG (VD Z Z (RdL.rd (v := .int .i64 y) hFq (by show w.cell? ⟨qb, qo + i * 1, none⟩ = _; rw [Nat.mul_one]; exact hcq i y hy)) ?_)
    refine VG (VO.callV (fun Fr w => within_spec Fr w _ _ _) Z (VG (VN ?_)))
    refine zfh ?_
    refine ⟨(i + 1, win y 96 65536), ⟨hi2, ?_⟩, by dsimp only; omega, sbZ, ER⟩
    dsimp only
    rw [hall, ← Bool.and_assoc, ← hb, Bool.true_and]
   ·subst h2
    refine zfh ?_
    refine ⟨(i + 1, false), ⟨hi2, ?_⟩, by dsimp only; omega, sbZ, ER⟩
    dsimp only
    rw [hall, ← Bool.and_assoc, ← hb, Bool.false_and]
  ·have hi2 : i = c.qs.length := by omega
   subst hi2
   rw [List.take_length] at hb
   exact ⟨b, hb, sbZ, ER⟩
 rintro b1 hb1
 refine VC.meet (σ := Bool) (fun b => [(3, .bool b)]) (fun _ => []) (fun b => b = rokM c) ?_ ?_
 rotate_left
 ·rintro b hb
  refine CS (CS (CG (VG (VN ?_))))
  refine VC.condN Z (fun h => ?_) (fun h => CK ?_)
  ·have hc : ¬ c = fitM c := fun e => by rw [(rok_iff c).1 e] at hb; rw [hb] at h; cases h
   refine xbf ?_
   exact CR (Ret.int 2 Z Z (by rw [checkM, if_neg hc]) ER ⟨rfl, Z⟩)
  ·have hc : c = fitM c := (rok_iff c).2 (by rw [← hb]; exact h)
   refine xbf ?_
   exact CR (Ret.int 2 Z Z (by rw [checkM, if_pos hc]) ER ⟨rfl, Z⟩)
 refine CG ?_
 refine VG (VO.split 43 Z Z (fun h0 => ?_) (fun h0 => ?_))
 rotate_left
 ·refine VG (VY 48 false Z Z ?_)
  refine VG (VY 53 false Z Z ?_)
  refine VG (VY 58 false Z Z ?_)
  refine zfs ?_
  refine zfv ?_
  refine VG (VN ⟨false, ?_, sbZ, Imp.nil.ent⟩)
  show false = rokM c
  rw [rokM, ← hb1, h0]; simp only [Bool.false_and]
 refine zfi ?_
 refine VG (VO.split 48 Z Z (fun h1 => ?_) (fun h1 => ?_))
 rotate_left
 ·refine VG (VY 53 false Z Z ?_)
  refine VG (VY 58 false Z Z ?_)
  refine zfs ?_
  refine zfv ?_
  refine VG (VN ⟨false, ?_, sbZ, Imp.nil.ent⟩)
  show false = rokM c
  simp only [rokM, h1, Bool.and_false, Bool.false_and]
 refine zfi ?_
 refine VG (VO.split 53 Z Z (fun h2 => ?_) (fun h2 => ?_))
 rotate_left
 ·refine VG (VY 58 false Z Z ?_)
  refine zfs ?_
  refine zfv ?_
  refine VG (VN ⟨false, ?_, sbZ, Imp.nil.ent⟩)
  show false = rokM c
  simp only [rokM, h2, Bool.and_false, Bool.false_and]
 refine zfi ?_
 refine VG (VO.split 58 Z Z (fun h3 => ?_) (fun h3 => ?_))
 rotate_left
 ·refine zfs ?_
  refine zfv ?_
  refine VG (VN ⟨false, ?_, sbZ, Imp.nil.ent⟩)
  show false = rokM c
  simp only [rokM, h3, Bool.and_false, Bool.false_and]
 refine zfi ?_
 refine VG (VO.split 63 Z Z (fun h4 => ?_) (fun h4 => ?_))
 rotate_left
 ·refine xci ?_
  refine zfv ?_
  refine VG (VN ⟨false, ?_, sbZ, Imp.nil.ent⟩)
  show false = rokM c
  simp only [rokM, h4, Bool.and_false, Bool.false_and]
 refine zfi ?_
 refine VG (VO.split 68 Z Z (fun h5 => ?_) (fun h5 => ?_))
 rotate_left
 ·refine zfv ?_
  refine VG (VN ⟨false, ?_, sbZ, Imp.nil.ent⟩)
  show false = rokM c
  simp only [rokM, h5, Bool.and_false, Bool.false_and]
 refine zfi ?_
 refine VG (VO.split 73 Z Z (fun h6 => ?_) (fun h6 => ?_))
 rotate_left
 ·refine xde ?_
  refine VG (VN ⟨false, ?_, sbZ, Imp.nil.ent⟩)
  show false = rokM c
  simp only [rokM, h6, Bool.and_false, Bool.false_and]
 refine zfi ?_
 refine VG (VO.split 78 Z Z (fun h7 => ?_) (fun h7 => ?_))
 rotate_left
 ·refine VG (VN ⟨false, ?_, sbZ, Imp.nil.ent⟩)
  show false = rokM c
  simp only [rokM, h7, Bool.and_false, Bool.false_and]
 refine zfi ?_
 refine VG (VN ⟨win c.refill 1 1099511627776, ?_, sbZ, Imp.nil.ent⟩)
 show _ = rokM c
 rw [rokM, ← hb1, h0]
 simp only [h1, h2, h3, h4, h5, h6, h7, Bool.true_and]
end Conf
namespace Nd
open Go Vg T Api Kv Ch Lg Rd Win Adm Sched Conf Rep
attribute [local irreducible] VO VC VA
section
variable {c : ChM} {a : Option Addr} {cap : Nat}
theorem rat_spec (h : RwIn memC 2 Fr w a c.ms) (hl : c.ms.length ≤ 1000000) (n : Int) : Tri Tryz.prog 54 [.agg (c.cells a cap).toArray, .int .i64 n] Fr w [] (fun v L => v = .int .i64 (placeOf c.ms n) ∧ L = []) := by
 refine TF 22 Tryz.func54 Z yj tabOk Z Z ?_
 refine CS (CG (VG (VB (vs := c.cells a cap) Z fun b => ?_)))
 refine xbf ?_
 refine VC.loop (σ := Nat) (fun i => [(1, .int .i64 n), (2, pV b), (5, .int .i64 i)]) (fun _ => [pt b (c.cells a cap) chT]) (fun i => i ≤ c.ms.length ∧ ∀ j m, j < i → c.ms[j]? = some m → m.1 ≠ n) (fun i => c.ms.length - i) 0
  ⟨Nat.zero_le _, fun j m hj => by omega⟩ sbZ ER ?_
 rintro i ⟨hi, hno⟩
 refine xbf ?_
 refine CP (p := (i : Int) < (c.ms.length : Int)) Z (fun h1 => CK ?_) (fun h1 => CX ?_)
 rotate_left
 ·refine xbf ?_
  exact CR (Ret.tmp 4 Z Z Imp.nil.ent ⟨by rw [place_miss (fun j m hj hm => hno j m yf hm)], Z⟩)
 have hi2 : i < c.ms.length := by omega
 obtain ⟨m, hm⟩ : ∃ m, c.ms[i]? = some m := ⟨_, GE hi2⟩
 obtain ⟨mb, mo, hma, ra, rc⟩ := RwIn.rd (X := ⟨Tryz.prog, tab, tabOk, 22, Fr, w⟩) h hm
 subst hma
 refine xbf ?_
 refine xbp ?_
 refine xbf ?_
 refine xdf ?_
 refine xbf ?_
 refine CE (i := m.1) (j := n) Z (fun h2 => ?_) (fun h2 => CK ?_)
 ·refine xbf ?_
  exact CR (Ret.tmp 4 Z Z Imp.nil.ent ⟨by rw [place_hit hm h2 hno], Z⟩)
 ·refine zfh ?_
  refine ⟨i + 1, ⟨hi2, fun j x hj hx => ?_⟩, by dsimp only; omega, sbZ, ER⟩
  by_cases hji : j = i
  ·subst hji; rw [hm] at hx; cases hx; exact h2
  ·exact hno j x yf hx
theorem rchk_spec (h : RwIn memC 2 Fr w a c.ms) (hl : c.ms.length ≤ 1000000) : Tri Tryz.prog 20 [.agg (c.cells a cap).toArray] Fr w [] (fun v L => v = .int .i64 (chE c) ∧ L = []) := by
 refine TF 82 Tryz.func20 Z yj tabOk Z Z ?_
 refine CS (CG (VG (VB (vs := c.cells a cap) Z fun b => ?_)))
 refine VG (VN (CS (CS ?_)))
 refine VC.meetS (σ := Unit) (fun _ => [(1, pV b), (25, .bool (!headOk c))]) (fun _ => [pt b (c.cells a cap) chT]) (fun _ => True) ?_ ?_
 ·refine xbf ?_
  by_cases h1 : c.epoch < 1
  ·refine VG (VY 9 true Z (DT h1) ?_)
   refine xbj ?_
   refine VG (VY 14 true Z Z ?_)
   refine xbj ?_
   refine xbr ?_
   refine xbj ?_
   exact xbs
  refine VG (VY 9 false Z (DF h1) ?_)
  refine xbj ?_
  by_cases h2 : 1099511627776 < c.epoch
  ·refine VG (VY 14 true Z (DT h2) ?_)
   refine xbj ?_
   refine xbr ?_
   refine xbj ?_
   exact xbs
  refine VG (VY 14 false Z (DF h2) ?_)
  refine xbj ?_
  by_cases h3 : (c.ms.length : Int) = 0
  ·refine VG (VY 20 true Z (by rw [beq_iff_eq]; exact h3) ?_)
   refine xbj ?_
   exact ⟨(), trivial, SC Z (Sub.bl Z yo (SN _)), ER⟩
  refine VG (VY 20 false Z (by rw [beq_eq_false_iff_ne]; exact h3) ?_)
  refine xbj ?_
  refine ⟨(), trivial, SC Z (Sub.bl Z ?_ (SN _)), ER⟩
  have e1 : decide (1 ≤ c.epoch) = true := DT yf
  have e2 : decide (c.epoch ≤ 1099511627776) = true := DT yf
  have e3 : decide (1 ≤ c.ms.length) = true := DT yf
  rw [headOk, e1, e2, e3]
  by_cases h4 : 6 < (c.ms.length : Int)
  ·rw [DT h4, DF (show ¬ c.ms.length ≤ 6 by omega)]; rfl
  ·rw [DF h4, DT (show c.ms.length ≤ 6 by omega)]; rfl
 rintro _ -
 refine VC.condN Z (fun hh => ?_) (fun hh => CK ?_)
 ·refine xbf ?_
  exact CR (Ret.tmp 2 Z Z Imp.nil.ent ⟨by rw [chE, chOk, hh]; rfl, Z⟩)
 have hmv : ∀ (i : Nat), memOk c i = false → i < c.ms.length → chOk c = false := fun i h1 h2 => by
  have : (List.range c.ms.length).all (memOk c) = false := by
   rw [List.all_eq_false]; exact ⟨i, List.mem_range.2 h2, by rw [h1]; simp⟩
  rw [chOk, this]; simp
 refine xbf ?_
 refine VC.loop (σ := Nat) (fun i => [(1, pV b), (3, .int .i64 i)]) (fun _ => [pt b (c.cells a cap) chT]) (fun i => i ≤ c.ms.length ∧ (List.range i).all (memOk c) = true) (fun i => c.ms.length - i) 0
  ⟨Nat.zero_le _, rfl⟩ sbZ ER ?_
 rintro i ⟨hi, hall⟩
 refine xbf ?_
 refine CP (p := (i : Int) < (c.ms.length : Int)) Z (fun h1 => CK ?_) (fun h1 => CX ?_)
 rotate_left
 ·obtain rfl : i = c.ms.length := by omega
  refine xbf ?_
  by_cases hd : c.drain = -1
  ·refine VG (VY 75 false Z (by rw [bne_eq_false_iff_eq]; exact hd) ?_)
   refine zfj ?_
   refine xbf ?_
   exact CR (Ret.tmp 2 Z Z Imp.nil.ent ⟨by rw [chE, chOk, hh, hall, drainOk, DT hd]; rfl, Z⟩)
  ·refine VG (VY 75 true Z (by rw [bne_iff_ne]; exact hd) ?_)
   refine xbt ?_
   refine xbj ?_
   refine VG (VV (fun Fr w hF hs hS => rat_spec Fr w (h.of hF hs) hl c.drain) Z ?_)
   refine xbj ?_
   refine CE (i := placeOf c.ms c.drain) (j := -1) Z (fun h2 => ?_) (fun h2 => CK ?_)
   ·refine xbf ?_
    exact CR (Ret.tmp 2 Z Z Imp.nil.ent ⟨by rw [chE, chOk, hh, hall, drainOk, DF hd, DF yf]; rfl, Z⟩)
   ·have hp : 0 ≤ placeOf c.ms c.drain := by rcases place_range c.ms c.drain with h3 | ⟨k, m, h3, _⟩ <;> omega
    refine xbf ?_
    exact CR (Ret.tmp 2 Z Z Imp.nil.ent ⟨by rw [chE, chOk, hh, hall, drainOk, DT hp]; simp, Z⟩)
 have hi2 : i < c.ms.length := by omega
 obtain ⟨m, hm⟩ : ∃ m, c.ms[i]? = some m := ⟨_, GE hi2⟩
 have hmo : memOk c i = (nodeB m.1 && (decide (placeOf c.ms m.1 = i) && (decide (1 ≤ m.2) && decide (m.2 ≤ c.epoch)))) := by rw [memOk, hm]
 obtain ⟨mb, mo, hma, ra, rc⟩ := RwIn.rd (X := ⟨Tryz.prog, tab, tabOk, 82, Fr, w⟩) h hm
 have hma' := hma
 rw [hma]
 refine xca ?_
 refine xbf ?_
 refine xbp ?_
 refine VG (VD Z Z (ra _ _ Z Z) ?_)
 refine VG (VO.alloc Z fun xb => ?_)
 refine xdg ?_
 refine CS (CS ?_)
 refine VC.meetS (σ := Unit) (fun _ => [(1, pV b), (3, .int .i64 i), (4, pV xb), (57, .bool (!(nodeB m.1 && (decide (1 ≤ m.2) && decide (m.2 ≤ c.epoch)))))]) (fun _ => [pt xb (memC m) memT, pt b (c.cells (some ⟨mb, mo, none⟩) cap) chT]) (fun _ => True) ?_ ?_
 ·refine CG ?_
  refine VG (VO.ld 0 Z Z Z Z ?_)
  by_cases h2 : m.1 < 0
  ·refine VG (VY 41 true Z (DT h2) ?_)
   refine xbz ?_
   refine VG (VY 46 true Z Z ?_)
   refine xbz ?_
   refine VG (VY 51 true Z Z ?_)
   refine xbz ?_
   exact ⟨(), trivial, SC Z (SC Z (SC Z (Sub.bl Z (by rw [nodeB, DF (show ¬ 0 ≤ m.1 by omega)]; rfl) (SN _)))), ER⟩
  refine VG (VY 41 false Z (DF h2) ?_)
  refine xbz ?_
  by_cases h3 : 5 < m.1
  ·refine VG (VY 46 true Z (DT h3) ?_)
   refine xbz ?_
   refine VG (VY 51 true Z Z ?_)
   refine xbz ?_
   exact ⟨(), trivial, SC Z (SC Z (SC Z (Sub.bl Z (by rw [nodeB, DF (show ¬ m.1 < 6 by omega)]; simp) (SN _)))), ER⟩
  refine VG (VY 46 false Z (DF h3) ?_)
  refine xbz ?_
  have hn : nodeB m.1 = true := by rw [nodeB, DT (show 0 ≤ m.1 by omega), DT (show m.1 < 6 by omega)]; rfl
  by_cases h4 : m.2 < 1
  ·refine VG (VY 51 true Z (DT h4) ?_)
   refine xbz ?_
   exact ⟨(), trivial, SC Z (SC Z (SC Z (Sub.bl Z (by rw [DF (show ¬ 1 ≤ m.2 by omega)]; simp) (SN _)))), ER⟩
  refine VG (VY 51 false Z (DF h4) ?_)
  refine xbz ?_
  refine ⟨(), trivial, SC Z (SC Z (SC Z (Sub.bl Z ?_ (SN _)))), ER⟩
  rw [hn, DT (show 1 ≤ m.2 by omega)]
  by_cases h5 : c.epoch < m.2
  ·rw [DT h5, DF (show ¬ m.2 ≤ c.epoch by omega)]; rfl
  ·rw [DF h5, DT (show m.2 ≤ c.epoch by omega)]; rfl
 rintro _ -
 refine VC.condN Z (fun h2 => ?_) (fun h2 => CK ?_)
 ·refine xbf ?_
  refine CR (Ret.tmp 2 Z Z Imp.nil.ent ⟨?_, Z⟩)
  rw [chE, hmv i ?_ hi2]; rfl
  rw [hmo]
  cases hn : nodeB m.1 with
  | false => rfl
  | true =>
   rw [hn, Bool.true_and] at h2
   rw [h2, Bool.and_false, Bool.and_false]
 simp only [Bool.and_eq_true] at h2
 refine xbf ?_
 refine VC.loop (σ := Nat) (fun k => [(1, pV b), (3, .int .i64 i), (4, pV xb), (5, .int .i64 k)]) (fun _ => [pt xb (memC m) memT, pt b (c.cells (some ⟨mb, mo, none⟩) cap) chT]) (fun k => k ≤ i ∧ ∀ j x, j < k → c.ms[j]? = some x → x.1 ≠ m.1) (fun k => i - k) 0
  ⟨Nat.zero_le _, fun j x hj => by omega⟩ sbZ ER ?_
 rintro k ⟨hk, hno⟩
 refine xbf ?_
 refine CP (p := (k : Int) < (i : Int)) Z (fun h5 => CK ?_) (fun h5 => CX ?_)
 rotate_left
 ·obtain rfl : k = i := by omega
  refine zfh ?_
  refine ⟨k + 1, ⟨hi2, ?_⟩, by dsimp only; omega, sbZ, (IP 1 Z Imp.nil).ent⟩
  rw [List.range_succ, List.all_append, hall]
  show (true && (memOk c k && true)) = true
  rw [hmo, place_hit hm rfl hno, h2.1, h2.2.1, h2.2.2]
  simp
 obtain ⟨x, hx⟩ : ∃ x, c.ms[k]? = some x := ⟨_, GE yf⟩
 obtain ⟨nb, no, hna, sa, sc⟩ := RwIn.rd (X := ⟨Tryz.prog, tab, tabOk, 82, Fr, w⟩) h hx
 rw [hma] at hna
 obtain ⟨rfl, rfl⟩ : mb = nb ∧ mo = no := by cases hna; exact ⟨rfl, rfl⟩
 refine xca ?_
 refine CS ?_
 refine xdh ?_
 refine xcl ?_
 refine AG (AI Z (light_idx k Z Z Z Z Z yf yf) ?_)
 refine xcl ?_
 refine AG (VA.load Z Z Z (sc _ _ 0 _ Z Z) ?_)
 refine xcl ?_
 refine CE (i := x.1) (j := m.1) Z (fun h6 => ?_) (fun h6 => CK ?_)
 ·refine xbf ?_
  refine CR (Ret.tmp 2 Z Z Imp.nil.ent ⟨?_, Z⟩)
  have : placeOf c.ms m.1 ≠ i := by
   rw [place_hit hx h6 hno]; omega
  rw [chE, hmv i (by rw [hmo, DF this]; simp) hi2]; rfl
 ·refine zfh ?_
  refine ⟨k + 1, ⟨by omega, fun j y hj hy => ?_⟩, by dsimp only; omega, sbZ, ER⟩
  by_cases hjk : j = k
  ·subst hjk; rw [hx] at hy; cases hy; exact h6
  ·exact hno j y yf hy
end
end Nd
namespace Au
open Go Vg T Api Kv Ch Lg Conf Rep
attribute [local irreducible] VO VC VA
def memEqB (m k : MemM) : Bool := decide (m.1 = k.1) && (decide (m.2 = k.2) && true)
theorem memEqB_iff (m k : MemM) : memEqB m k = true ↔ m = k := by
 obtain ⟨m1, m2⟩ := m; obtain ⟨k1, k2⟩ := k
 simp [memEqB]
theorem stoodMem : Tryz.prog.stoodInHeld 75 = false := by kernel_rfl
theorem guardMem : Tryz.prog.eqGuardType Tryz.prog.depth 75 = false := by kernel_rfl
theorem mem_eq (o p : MemM) (w : World) : (Op.equal 75 (.agg (memC o).toArray) (.agg (memC p).toArray)).run Tryz.prog w = .ok (memEqB o p) w := by
 have hi : ∀ (cs : List Value) (j : Nat) (n : Int), cs[j]? = some (.int .i64 n) → ∀ w : World, (part 3 cs.toArray j).run Tryz.prog w = .ok (.int .i64 n) w := fun cs j n h w => part1 (TabOk.look tabOk (t := 3) (ti := T.t3) rfl) rfl h w
 refine EqT.run (EqT.st Tryz.underlying75 stoodMem (EqFs.cons yk (hi _ _ _ Z) (hi _ _ _ Z) (EqT.int Tryz.underlying3 o.1 p.1) (EqFs.cons yk (hi _ _ _ Z) (hi _ _ _ Z) (EqT.int Tryz.underlying3 o.2 p.2) EqFs.nil))) yk w
theorem rsame_spec {c d : ChM} {a b : Option Addr} {ac bc : Nat} (h : RwIn memC 2 Fr w a c.ms) (k : RwIn memC 2 Fr w b d.ms) (hl : c.ms.length ≤ 1000000) (hk : d.ms.length ≤ 1000000) :
  Tri Tryz.prog 55 [.agg (c.cells a ac).toArray, .agg (d.cells b bc).toArray] Fr w [] (fun v L => v = .bool (decide (c = d)) ∧ L = []) := by
 refine TF 45 Tryz.func55 Z yj tabOk Z Z ?_
 refine CS (CG (VG (VB (vs := c.cells a ac) Z fun x => VG (VB (vs := d.cells b bc) Z fun y => ?_))))
 refine xbv ?_
 by_cases h1 : c.epoch = d.epoch
 rotate_left
 ·refine VG (VY 11 true Z (by rw [bne_iff_ne]; exact h1) ?_)
  refine xbj ?_
  refine VG (VY 18 true Z Z ?_)
  refine xbj ?_
  refine zfp ?_
  exact CR (Ret.tmp 4 Z Z Imp.nil.ent ⟨by rw [DF (fun e => h1 yp)], Z⟩)
 refine VG (VY 11 false Z (by rw [bne_eq_false_iff_eq]; exact h1) ?_)
 refine xbz ?_
 by_cases h2 : c.drain = d.drain
 rotate_left
 ·refine VG (VY 18 true Z (by rw [bne_iff_ne]; exact h2) ?_)
  refine xbj ?_
  refine zfp ?_
  exact CR (Ret.tmp 4 Z Z Imp.nil.ent ⟨by rw [DF (fun e => h2 yp)], Z⟩)
 refine VG (VY 18 false Z (by rw [bne_eq_false_iff_eq]; exact h2) ?_)
 refine xbz ?_
 refine VC.condNE (i := (c.ms.length : Int)) (j := (d.ms.length : Int)) Z (fun h3 => ?_) (fun h3 => CK ?_)
 ·refine xbf ?_
  exact CR (Ret.tmp 4 Z Z Imp.nil.ent ⟨by rw [DF (fun e => h3 yp)], Z⟩)
 have h3 : c.ms.length = d.ms.length := by omega
 refine xbf ?_
 refine VC.loop (σ := Nat) (fun i => [(2, pV x), (3, pV y), (5, .int .i64 i)]) (fun _ => [pt y (d.cells b bc) chT, pt x (c.cells a ac) chT]) (fun i => i ≤ c.ms.length ∧ ∀ j, j < i → c.ms[j]? = d.ms[j]?) (fun i => c.ms.length - i) 0
  ⟨Nat.zero_le _, fun j hj => absurd hj (Nat.not_lt_zero j)⟩ sbZ ER ?_
 rintro i ⟨hi, hall⟩
 refine xbv ?_
 refine CP (p := (i : Int) < (c.ms.length : Int)) Z (fun h4 => CK ?_) (fun h4 => CX ?_)
 rotate_left
 ·refine xbf ?_
  refine CR (Ret.tmp 4 Z Z Imp.nil.ent ⟨?_, Z⟩)
  have hms : c.ms = d.ms := by
   apply List.ext_getElem?
   intro j
   by_cases hj : j < c.ms.length
   ·exact hall j yf
   ·rw [List.getElem?_eq_none yf, List.getElem?_eq_none yf]
  have : c = d := by cases c; cases d; dsimp only at h1 h2 hms; subst h1; subst h2; subst hms; rfl
  rw [DT this]
 obtain ⟨m, hm⟩ : ∃ m, c.ms[i]? = some m := ⟨_, GE yf⟩
 obtain ⟨n, hn⟩ : ∃ m, d.ms[i]? = some m := ⟨_, GE yf⟩
 obtain ⟨mb, mo, hma, ra, rc⟩ := RwIn.rd (X := ⟨Tryz.prog, tab, tabOk, 45, Fr, w⟩) h hm
 subst hma
 obtain ⟨nb, no, hna, sa, sc⟩ := RwIn.rd (X := ⟨Tryz.prog, tab, tabOk, 45, Fr, w⟩) k hn
 subst hna
 refine xca ?_
 refine CS ?_
 refine CD (ts 0 11 .nil) yj yl ?_
 refine xcl ?_
 refine AG (AI Z (light_idx i Z Z Z Z Z yf yf) ?_)
 refine xdi ?_
 refine xcl ?_
 refine AG (AI Z (light_idx i Z Z Z Z Z yf yf) ?_)
 refine xdj ?_
 refine AG (AI Z (light_neS guardMem Z Z (mem_eq m n)) ?_)
 refine xcl ?_
 refine CC (t := !memEqB m n) Z (fun hd => ?_) (fun hd => CK ?_)
 ·refine xbf ?_
  refine CR (Ret.tmp 4 Z Z Imp.nil.ent ⟨?_, Z⟩)
  have hd : memEqB m n = false := by simpa using hd
  rw [DF]
  intro e
  rw [e, hn] at hm
  cases hm
  rw [(memEqB_iff m m).2 rfl] at hd
  cases hd
 ·have hd : memEqB m n = true := by simpa using hd
  refine zfh ?_
  refine ⟨i + 1, ⟨by omega, fun j hj => ?_⟩, by dsimp only; omega, sbZ, ER⟩
  by_cases hji : j = i
  ·subst hji; rw [hm, hn, (memEqB_iff m n).1 hd]
  ·exact hall j yf
theorem equalM_spec {a b : Option Addr} {ca cb : Nat} {xs ys : List MemM} (hx : RwIn memC 2 Fr w a xs) (hy : RwIn memC 2 Fr w b ys) (hlx : xs.length ≤ 1000000) (hly : ys.length ≤ 1000000) :
  Tri Tryz.prog 87 [.slice a xs.length ca, .slice b ys.length cb] Fr w [] (fun v L => v = .bool (decide (xs = ys)) ∧ L = []) := by
 refine TF 26 Tryz.func87 Z yj tabOk Z Z ?_
 refine xbf ?_
 refine VC.condNE (i := (xs.length : Int)) (j := (ys.length : Int)) Z (fun h => ?_) (fun h => CK ?_)
 ·refine xbf ?_
  exact CR (Ret.bool 4 Z Z (by rw [DF (fun e => h yp)]) ER ⟨rfl, Z⟩)
 have hll : xs.length = ys.length := by omega
 refine xbf ?_
 refine VC.loop (σ := Nat) (fun n => [(0, .slice a xs.length ca), (1, .slice b ys.length cb), (12, .int .i64 xs.length), (13, .int .i64 n)]) (fun _ => []) (fun n => n ≤ xs.length ∧ ∀ k, k < n → xs[k]? = ys[k]?) (fun n => xs.length - n) 0
  ⟨Nat.zero_le _, fun k hk => absurd hk (Nat.not_lt_zero k)⟩ sbZ ER ?_
 rintro n ⟨hn, hall⟩
 refine xbf ?_
 refine CP (p := (n : Int) < (xs.length : Int)) Z (fun h2 => CK ?_) (fun h2 => CX ?_)
 rotate_left
 ·refine xbf ?_
  refine CR (Ret.bool 4 Z Z ?_ ER ⟨rfl, Z⟩)
  rw [DT]
  apply List.ext_getElem?
  intro k
  by_cases hk : k < n
  ·exact hall k hk
  ·rw [List.getElem?_eq_none yf, List.getElem?_eq_none yf]
 obtain ⟨x, hxk⟩ : ∃ x, xs[n]? = some x := ⟨_, GE yf⟩
 obtain ⟨y, hyk⟩ : ∃ y, ys[n]? = some y := ⟨_, GE yf⟩
 obtain ⟨mb, mo, hma, ra, rc⟩ := RwIn.rd (X := ⟨Tryz.prog, tab, tabOk, 26, Fr, w⟩) hx hxk
 subst hma
 obtain ⟨nb, no, hna, sa, sc⟩ := RwIn.rd (X := ⟨Tryz.prog, tab, tabOk, 26, Fr, w⟩) hy hyk
 subst hna
 refine xca ?_
 refine xcc ?_
 refine xbf ?_
 refine xdh ?_
 refine xbn ?_
 refine xdk ?_
 refine xdi ?_
 refine xbn ?_
 refine xdk ?_
 refine xdj ?_
 refine AG (AI Z (light_neS guardMem Z Z (mem_eq x y)) ?_)
 refine xbn ?_
 refine CC (t := !memEqB x y) Z (fun hd => ?_) (fun hd => CK ?_)
 ·refine xbf ?_
  refine CR (Ret.bool 4 Z Z ?_ ER ⟨rfl, Z⟩)
  have hd : memEqB x y = false := by simpa using hd
  rw [DF]
  intro e
  rw [e, hyk] at hxk
  cases hxk
  rw [(memEqB_iff x x).2 rfl] at hd
  cases hd
 ·have hd : memEqB x y = true := by simpa using hd
  refine zfh ?_
  exact ⟨n + 1, ⟨by omega, fun k hk => by
   by_cases hkn : k = n
   ·subst hkn; rw [hxk, hyk, (memEqB_iff x y).1 hd]
   ·exact hall k yf⟩, by dsimp only; omega, sbZ, ER⟩
theorem same_spec {c d : ChM} {a b : Option Addr} {ac bc : Nat} (h : RwIn memC 2 Fr w a c.ms) (k : RwIn memC 2 Fr w b d.ms) (hl : c.ms.length ≤ 1000000) (hk : d.ms.length ≤ 1000000) :
  Tri Tryz.prog 50 [.agg (c.cells a ac).toArray, .agg (d.cells b bc).toArray] Fr w [] (fun v L => v = .bool (decide (c = d)) ∧ L = []) := by
 refine TF 24 Tryz.func50 Z yj tabOk Z Z ?_
 refine CS (CG (VG (VB (vs := c.cells a ac) Z fun x => VG (VB (vs := d.cells b bc) Z fun y => ?_))))
 refine xbv ?_
 by_cases h1 : c.epoch = d.epoch
 rotate_left
 ·refine VG (VY 10 false Z (by rw [beq_eq_false_iff_ne]; exact h1) ?_)
  refine xbz ?_
  refine VG (VY 17 false Z Z ?_)
  refine xbz ?_
  exact CR (Ret.tmp 4 Z Z Imp.nil.ent ⟨by rw [DF (fun e => h1 yp)], Z⟩)
 refine VG (VY 10 true Z (by rw [beq_iff_eq]; exact h1) ?_)
 refine xbz ?_
 by_cases h2 : c.drain = d.drain
 rotate_left
 ·refine VG (VY 17 false Z (by rw [beq_eq_false_iff_ne]; exact h2) ?_)
  refine xbz ?_
  exact CR (Ret.tmp 4 Z Z Imp.nil.ent ⟨by rw [DF (fun e => h2 yp)], Z⟩)
 refine VG (VY 17 true Z (by rw [beq_iff_eq]; exact h2) ?_)
 refine xbz ?_
 refine VG (VV (fun Fr w hF hs hS => equalM_spec Fr w (h.of hF hs) (k.of hF hs) hl hk) Z ?_)
 refine xbz ?_
 refine CR (Ret.bool 4 Z Z ?_ Imp.nil.ent ⟨rfl, Z⟩)
 refine decide_eq_decide.2 ⟨fun e => ?_, fun e => by rw [e]⟩
 cases c; cases d; dsimp only at h1 h2 e; subst h1; subst h2; subst e; rfl
end Au
namespace Au
open Go Vg T Api Kv Ch Lg Conf Rep
attribute [local irreducible] VO VC VA
def opEqB (o p : OpM) : Bool := decide (o.kind = p.kind) && (decide (o.key = p.key) && (decide (o.value = p.value) && (decide (o.version = p.version) && true)))
def entEqB (e d : EntryM) : Bool := decide (e.index = d.index) && (decide (e.client = d.client) && (decide (e.seq = d.seq) && (opEqB e.op d.op && true)))
theorem entEqB_iff (e d : EntryM) : entEqB e d = true ↔ e = d := by
 obtain ⟨a1, a2, a3, ⟨o1, o2, o3, o4⟩⟩ := e
 obtain ⟨b1, b2, b3, ⟨p1, p2, p3, p4⟩⟩ := d
 simp [entEqB, opEqB]
theorem stoodEnt : Tryz.prog.stoodInHeld 99 = false := by kernel_rfl
theorem stoodOp : Tryz.prog.stoodInHeld 97 = false := by kernel_rfl
theorem guardEnt : Tryz.prog.eqGuardType Tryz.prog.depth 99 = false := by kernel_rfl
theorem ent_eq (e d : EntryM) (w : World) : (Op.equal 99 (.agg (entC e).toArray) (.agg (entC d).toArray)).run Tryz.prog w = .ok (entEqB e d) w := by
 have hi : ∀ (cs : List Value) (j : Nat) (n : Int), cs[j]? = some (.int .i64 n) → ∀ w : World, (part 3 cs.toArray j).run Tryz.prog w = .ok (.int .i64 n) w := fun cs j n h w => part1 (TabOk.look tabOk (t := 3) (ti := T.t3) rfl) rfl h w
 have hs : ∀ (cs : List Value) (j : Nat) (s : ByteArray), cs[j]? = some (.string s) → ∀ w : World, (part 9 cs.toArray j).run Tryz.prog w = .ok (.string s) w := fun cs j n h w => part1 (TabOk.look tabOk (t := 9) (ti := T.t9) rfl) rfl h w
 have ho : ∀ (e : EntryM) (w : World), (part 97 (entC e).toArray 3).run Tryz.prog w = .ok (.agg e.op.cells.toArray) w := fun e w => partA (cs := entC e) (ds := e.op.cells) (off := 3) (TabOk.look tabOk (t := 97) (ti := T.t97) rfl) yj (by show ((entC e).drop 3).take 4 = e.op.cells; rfl) w
 refine EqT.run (EqT.st Tryz.underlying99 stoodEnt (EqFs.cons yk (hi _ _ _ Z) (hi _ _ _ Z) (EqT.int Tryz.underlying3 e.index d.index) (EqFs.cons yk (hi _ _ _ Z) (hi _ _ _ Z) (EqT.int Tryz.underlying3 e.client d.client) (EqFs.cons yk (hi _ _ _ Z) (hi _ _ _ Z) (EqT.int Tryz.underlying3 e.seq d.seq) (EqFs.cons yk (ho e) (ho d) (EqT.st Tryz.underlying97 stoodOp (EqFs.cons yk (hi _ _ _ Z) (hi _ _ _ Z) (EqT.int Tryz.underlying3 e.op.kind d.op.kind) (EqFs.cons yk (hs _ _ _ Z) (hs _ _ _ Z) (EqT.str Tryz.underlying9 e.op.key d.op.key) (EqFs.cons yk (hs _ _ _ Z) (hs _ _ _ Z) (EqT.str Tryz.underlying9 e.op.value d.op.value) (EqFs.cons yk (hi _ _ _ Z) (hi _ _ _ Z) (EqT.int Tryz.underlying3 e.op.version d.op.version) EqFs.nil))))) EqFs.nil))))) yk w
theorem part_spec {a b : Option Addr} {ca cb : Nat} {xs ys : List EntryM} (hx : RwIn entC 7 Fr w a xs) (hy : RwIn entC 7 Fr w b ys) (hlx : xs.length ≤ 1000000) (hly : ys.length ≤ 1000000) :
  Tri Tryz.prog 52 [.slice a xs.length ca, .slice b ys.length cb] Fr w [] (fun v L => v = .int .i64 (partM xs ys : Nat) ∧ L = []) := by
 refine TF 30 Tryz.func52 Z yj tabOk Z Z ?_
 refine xdl ?_
 refine VC.loop (σ := Nat) (fun n => [(0, .slice a xs.length ca), (1, .slice b ys.length cb), (5, .int .i64 n)]) (fun _ => []) (fun n => n ≤ xs.length ∧ n ≤ ys.length ∧ ∀ k, k < n → xs[k]? = ys[k]?) (fun n => xs.length - n) 0
  ⟨Nat.zero_le _, Nat.zero_le _, fun k hk => absurd hk (Nat.not_lt_zero k)⟩ sbZ ER ?_
 rintro n ⟨hn, hn2, hall⟩
 have stop : (∀ x y, xs[n]? = some x → ys[n]? = some y → x ≠ y) → partM xs ys = n := fun h => partM_is hn hn2 hall h
 refine CS (CS ?_)
 refine CD (ts 0 21 .nil) yj yl ?_
 refine xdm ?_
 by_cases h1 : n < xs.length
 rotate_left
 ·refine AG (AY 10 false Z (DF yf) ?_)
  refine xdm ?_
  refine AG (AY 16 false Z Z ?_)
  refine xdm ?_
  refine xdn ?_
  refine xdl ?_
  exact CR (Ret.int 4 rfl rfl (by rw [stop (fun x y hx => by rw [List.getElem?_eq_none yf] at hx; cases hx)]) ER ⟨rfl, rfl⟩)
 refine AG (AY 10 true Z (DT yf) ?_)
 refine xdm ?_
 by_cases h2 : n < ys.length
 rotate_left
 ·refine AG (AY 16 false Z (DF yf) ?_)
  refine xdm ?_
  refine xdn ?_
  refine xdl ?_
  exact CR (Ret.int 4 rfl rfl (by rw [stop (fun x y _ hy => by rw [List.getElem?_eq_none yf] at hy; cases hy)]) ER ⟨rfl, rfl⟩)
 refine AG (AY 16 true Z (DT yf) ?_)
 refine xdm ?_
 obtain ⟨x, hxk⟩ : ∃ x, xs[n]? = some x := ⟨_, GE yf⟩
 obtain ⟨y, hyk⟩ : ∃ y, ys[n]? = some y := ⟨_, GE yf⟩
 obtain ⟨mb, mo, hma, ra, rc⟩ := RwIn.rd (X := ⟨Tryz.prog, tab, tabOk, 30, Fr, w⟩) hx hxk
 subst hma
 obtain ⟨nb, no, hna, sa, sc⟩ := RwIn.rd (X := ⟨Tryz.prog, tab, tabOk, 30, Fr, w⟩) hy hyk
 subst hna
 refine xdk ?_
 refine xdi ?_
 refine xdm ?_
 refine xdk ?_
 refine xdj ?_
 refine AG (AI Z (light_eqS guardEnt Z Z (ent_eq x y)) ?_)
 refine xdm ?_
 refine CC (t := entEqB x y) Z (fun hd => CK ?_) (fun hd => CX ?_)
 ·refine xdl ?_
  refine xbq ?_
  refine xdl ?_
  exact ⟨n + 1, ⟨by omega, by omega, fun k hk => by
   by_cases hkn : k = n
   ·subst hkn; rw [hxk, hyk, (entEqB_iff x y).1 hd]
   ·exact hall k yf⟩, by dsimp only; omega, sbZ, ER⟩
 ·refine xdl ?_
  exact CR (Ret.int 4 Z Z (by rw [stop (fun x' y' h1 h2 e => by
   rw [hxk] at h1; rw [hyk] at h2; cases h1; cases h2; cases e
   rw [(entEqB_iff x x).2 rfl] at hd; cases hd)]) ER ⟨rfl, rfl⟩)
theorem apart_spec {a b : Option Addr} {ca cb : Nat} {xs ys : List EntryM} (hx : RwIn entC 7 Fr w a xs) (hy : RwIn entC 7 Fr w b ys) (hlx : xs.length ≤ 1000000) (hly : ys.length ≤ 1000000) :
  Tri Tryz.prog 23 [.slice a xs.length ca, .slice b ys.length cb] Fr w [] (fun v L => v = .int .i64 (apartM xs ys) ∧ L = []) := by
 refine TF 28 Tryz.func23 Z yj tabOk Z Z ?_
 refine xdl ?_
 refine VC.loop (σ := Nat) (fun n => [(0, .slice a xs.length ca), (1, .slice b ys.length cb), (5, .int .i64 n)]) (fun _ => []) (fun n => n ≤ xs.length ∧ n ≤ ys.length ∧ ∀ k, k < n → xs[k]? = ys[k]?) (fun n => xs.length - n) 0
  ⟨Nat.zero_le _, Nat.zero_le _, fun k hk => absurd hk (Nat.not_lt_zero k)⟩ sbZ ER ?_
 rintro n ⟨hn, hn2, hall⟩
 have stop : (∀ x y, xs[n]? = some x → ys[n]? = some y → x ≠ y) → partM xs ys = n := fun h => partM_is hn hn2 hall h
 refine xdo ?_
 by_cases h1 : n < xs.length
 rotate_left
 ·refine VG (VY 10 false Z (DF yf) ?_)
  refine xdo ?_
  refine xdn ?_
  refine xdl ?_
  have e := stop (fun x y hx => by rw [List.getElem?_eq_none yf] at hx; cases hx)
  exact CR (Ret.int 4 Z Z (by unfold apartM; rw [e, if_neg (fun k => h1 k.1)]) ER ⟨rfl, Z⟩)
 refine VG (VY 10 true Z (DT yf) ?_)
 refine xdo ?_
 refine CP (p := (n : Int) < (ys.length : Int)) Z (fun h2 => CK ?_) (fun h2 => CX ?_)
 rotate_left
 ·refine xdl ?_
  have e := stop (fun x y _ hy => by rw [List.getElem?_eq_none yf] at hy; cases hy)
  exact CR (Ret.int 4 Z Z (by unfold apartM; rw [e, if_neg (fun k => h2 yf)]) ER ⟨rfl, Z⟩)
 obtain ⟨x, hxk⟩ : ∃ x, xs[n]? = some x := ⟨_, GE yf⟩
 obtain ⟨y, hyk⟩ : ∃ y, ys[n]? = some y := ⟨_, GE yf⟩
 obtain ⟨mb, mo, hma, ra, rc⟩ := RwIn.rd (X := ⟨Tryz.prog, tab, tabOk, 28, Fr, w⟩) hx hxk
 subst hma
 obtain ⟨nb, no, hna, sa, sc⟩ := RwIn.rd (X := ⟨Tryz.prog, tab, tabOk, 28, Fr, w⟩) hy hyk
 subst hna
 refine CS (VC.block (CS ?_))
 refine xdh ?_
 refine xdp ?_
 refine xdk ?_
 refine xdi ?_
 refine xdp ?_
 refine xdk ?_
 refine xdj ?_
 refine AG (AI Z (light_neS guardEnt Z Z (ent_eq x y)) ?_)
 refine xdp ?_
 refine CC (t := !entEqB x y) Z (fun hd => ?_) (fun hd => CK ?_)
 ·have hd : entEqB x y = false := by simpa using hd
  refine xdl ?_
  have e := stop (fun x' y' h1 h2 e => by
   rw [hxk] at h1; rw [hyk] at h2; cases h1; cases h2; cases e
   rw [(entEqB_iff x x).2 rfl] at hd; cases hd)
  exact CR (Ret.int 4 Z Z (by unfold apartM; rw [e, if_pos ⟨h1, by omega⟩]) ER ⟨rfl, Z⟩)
 ·have hd : entEqB x y = true := by simpa using hd
  refine xdl ?_
  refine xbq ?_
  refine xdl ?_
  exact ⟨n + 1, ⟨by omega, by omega, fun k hk => by
   by_cases hkn : k = n
   ·subst hkn; rw [hxk, hyk, (entEqB_iff x y).1 hd]
   ·exact hall k yf⟩, by dsimp only; omega, sbZ, ER⟩
end Au
namespace Au
open Go Vg T Api Kv Ch Lg Rd Conf Rep Sched Adm
attribute [local irreducible] VO VC VA
structure AudR where
 n : AudN
 ma : Option Addr
 mc : Nat
 wa : Option Addr
 wc : Nat
 la : Option Addr
 lc : Nat
def audC (x : AudR) : List Value := [.int .i64 x.n.id, .int .i64 x.n.since, .int .i64 x.n.done, .int .i64 x.n.reading, .int .i64 x.n.ch.epoch, .slice x.ma x.n.ch.ms.length x.mc, .int .i64 x.n.ch.drain, .slice x.wa x.n.waits.length x.wc, .slice x.la x.n.log.length x.lc]
theorem audC_len (x : AudR) : (audC x).length = 9 := rfl
structure AudIn (Fr : Nat → Prop) (w : World) (x : AudR) : Prop where
 ms : RwIn memC 2 Fr w x.ma x.n.ch.ms
 waits : IntsIn Fr w x.wa x.n.waits
 log : RwIn entC 7 Fr w x.la x.n.log
 msl : x.n.ch.ms.length ≤ 1000
 wl : x.n.waits.length ≤ 1000
 ll : x.n.log.length ≤ 5000
theorem IntsIn.keep {Fr Fr' : Nat → Prop} {w w' : World} {a : Option Addr} {qs : List Int} (h : IntsIn Fr w a qs) (hF : ∀ b, Fr b → Fr' b) (hk : Keep Fr w w') : IntsIn Fr' w' a qs := ⟨fun hne => by
 obtain ⟨b, off, h1, h2, h3⟩ := h.at_ hne
 refine ⟨b, off, h1, hF b h2, fun i v hi => ?_⟩
 have := h3 i v hi
 unfold World.cell? at this ⊢
 rw [hk.block b h2]; exact this⟩
theorem AudIn.of {X : Cx} {x : AudR} (h : AudIn X.Fr X.w0 x) {Fr' : Nat → Prop} {w : World} {L : List HP} (hF : ∀ b, X.Fr b → Fr' b) (hw : St X L w) : AudIn Fr' w x := ⟨h.ms.of hF hw, IntsIn.keep h.waits hF hw.keep, h.log.of hF hw, h.msl, h.wl, h.ll⟩
abbrev confT : TypeId := 24
theorem alone_spec {c : ConfM} (hf : c = fitM c) {qa : Option Addr} {qc : Nat} {ch : ChM} {ca : Option Addr} {cc : Nat} (hch : RwIn memC 2 Fr w ca ch.ms) (hchl : ch.ms.length ≤ 1000) {x : AudR} (hx : AudIn Fr w x) :
  Tri Tryz.prog 17 [.agg (c.cells qa qc).toArray, .agg (ch.cells ca cc).toArray, .agg (audC x).toArray] Fr w [] (fun v L => ∃ a cap, v = .slice a (aloneM c ch x.n).length cap ∧ L = [slH 45 3 a (aloneM c ch x.n).length cap (flat fdC (aloneM c ch x.n))]) := by
 have hcb := conf_bounds hf
 have hql : c.qs.length ≤ 1000 := by
  have h2 : c.qs = qFit c.qs := congrArg ConfM.qs hf
  have := qFit_len c.qs
  rw [← h2] at this; omega
 have hwl := hx.wl; have hll := hx.ll
 have lA : (aloA ch x.n).length ≤ 1 := ifF_len _ _
 have lB : (aloB c ch x.n).length ≤ 2 := by unfold aloB; rw [List.length_append]; have := ifF_len (x.n.done < (x.n.log.length : Int) - c.window) (3, x.n.id, (x.n.log.length : Int)); omega
 have lC : (aloC c ch x.n).length ≤ 3 := by unfold aloC; rw [List.length_append]; have := ifF_len (x.n.done < 0 ∨ (x.n.log.length : Int) < x.n.done) (4, x.n.id, x.n.done); omega
 refine TF 121 Tryz.func17 Z yj tabOk Z Z ?_
 refine CS (CG (VG (VB (vs := c.cells qa qc) Z fun b3 => VG (VB (vs := ch.cells ca cc) Z fun b4 => VG (VB (vs := audC x) Z fun b5 => VG (VN ?_))))))
 refine CN (L' := slH 45 3 none 0 0 [] :: [pt b5 (audC x) 61, pt b4 (ch.cells ca cc) chT, pt b3 (c.cells qa qc) confT]) (Imp.slNil Imp.refl).ent ?_
 refine xcb ?_
 show VC _ _ _ _ _
 refine xcc ?_
 refine VG (VO.ld 1 Z Z Z Z ?_)
 refine VG (VO.ld 2 Z Z Z Z ?_)
 refine xcd ?_
 show VC _ _ _ _ _
 refine CS ?_
 refine VC.meetS (σ := Option Addr × Nat) (fun s => [(3, pV b3), (4, pV b4), (5, pV b5), (7, .slice s.1 (aloA ch x.n).length s.2)]) (fun s => slH 45 3 s.1 (aloA ch x.n).length s.2 (flat fdC (aloA ch x.n)) :: [pt b5 (audC x) 61, pt b4 (ch.cells ca cc) chT, pt b3 (c.cells qa qc) confT]) (fun _ => True) ?_ ?_
 ·refine CS ?_
  refine VC.meetS (σ := Bool) (fun b => [(3, pV b3), (4, pV b4), (5, pV b5), (7, .slice none 0 0), (31, .bool b)]) (fun _ => slH 45 3 none 0 0 [] :: [pt b5 (audC x) 61, pt b4 (ch.cells ca cc) chT, pt b3 (c.cells qa qc) confT]) (fun b => b = true ↔ (ch.epoch < x.n.ch.epoch ∨ x.n.ch.epoch = ch.epoch ∧ x.n.ch ≠ ch)) ?_ ?_
  ·refine CG ?_
   refine xdq ?_
   by_cases g1 : ch.epoch < x.n.ch.epoch
   ·refine VG (VY 17 true Z (DT g1) ?_)
    refine xdq ?_
    exact xdr
   refine VG (VY 17 false Z (DF g1) ?_)
   refine xdq ?_
   by_cases g2 : x.n.ch.epoch = ch.epoch
   rotate_left
   ·refine VG (VY 24 false Z yaa ?_)
    refine xdq ?_
    exact ⟨false, ⟨fun h => yab, fun h => absurd h yac⟩, sbZ, ER⟩
   refine VG (VY 24 true Z (by rw [beq_iff_eq]; exact g2) ?_)
   refine xdq ?_
   refine VG (VL 1 (x.n.ch.cells x.ma x.mc) Z Z Z Z ?_)
   refine VG (VL 2 (ch.cells ca cc) Z Z Z Z ?_)
   refine VG (VV (fun Fr w hF hs hS => same_spec Fr w (hx.ms.of hF hs) (hch.of hF hs) (by have := hx.msl; omega) yf) Z ?_)
   refine xdq ?_
   by_cases g3 : x.n.ch = ch
   ·exact xds
   ·exact xdt
  rintro b hb
  refine CC Z (fun hbt => ?_) (fun hbf => CK ?_)
  ·have hp := hb.1 hbt
   refine xdq ?_
   refine xdu ?_
   refine VG (VO.buildSlice (n := 1) (pv := [(0, .agg (fdC (2, x.n.id, x.n.ch.epoch)).toArray)]) (fdC (2, x.n.id, x.n.ch.epoch)) Z Z Z Z yk (fill_one Z Z Z) fun nb => ?_)
   refine VG (VO.append (m := 1) (news := fdC (2, x.n.id, x.n.ch.epoch)) 1 Z Z Z Z Z Z Z (RdRow.pt 0 Z Z Z) Z (small_bytes (k := 100000) yf yk) yf fun a2 c2 hc2 => ?_)
   refine xdo ?_
   rw [show aloA ch x.n = [((2, x.n.id, x.n.ch.epoch) : FindM)] from by unfold aloA; rw [ifF, if_pos hp]]
   exact xdv
  ·have hp : ¬ (ch.epoch < x.n.ch.epoch ∨ x.n.ch.epoch = ch.epoch ∧ x.n.ch ≠ ch) := fun h => by rw [hb.2 h] at hbf; cases hbf
   rw [show aloA ch x.n = [] from by unfold aloA; rw [ifF, if_neg hp]]
   exact xdw
 rintro ⟨sa, sc⟩ -
 dsimp only
 refine CS ?_
 refine VC.meetS (σ := Option Addr × Nat) (fun s => [(3, pV b3), (4, pV b4), (5, pV b5), (7, .slice s.1 (aloB c ch x.n).length s.2)]) (fun s => slH 45 3 s.1 (aloB c ch x.n).length s.2 (flat fdC (aloB c ch x.n)) :: [pt b5 (audC x) 61, pt b4 (ch.cells ca cc) chT, pt b3 (c.cells qa qc) confT]) (fun _ => True) ?_ ?_
 ·refine xdq ?_
  refine VG (VO.sub' Z Z yf yf ?_)
  refine xdq ?_
  refine CP (p := x.n.done < (x.n.log.length : Int) - c.window) Z (fun hp => ?_) (fun hp => CK ?_)
  ·skip
   refine xdq ?_
   refine xdx ?_
   refine VG (VO.buildSlice (n := 1) (pv := [(0, .agg (fdC (3, x.n.id, (x.n.log.length : Int))).toArray)]) (fdC (3, x.n.id, (x.n.log.length : Int))) Z Z Z Z yk (fill_one Z Z Z) fun nb => ?_)
   refine VG (VO.append (m := 1) (news := fdC (3, x.n.id, (x.n.log.length : Int))) 1 Z Z Z Z Z Z Z (RdRow.pt 0 Z Z Z) Z (small_bytes (k := 100000) yf yk) yf fun a2 c2 hc2 => ?_)
   refine xdo ?_
   rw [show aloB c ch x.n = aloA ch x.n ++ [((3, x.n.id, (x.n.log.length : Int)) : FindM)] from by unfold aloB; rw [ifF, if_pos hp], List.length_append, flat_append]
   exact xdv
  ·skip
   rw [show aloB c ch x.n = aloA ch x.n from by unfold aloB; rw [ifF, if_neg hp, List.append_nil]]
   exact xdy
 rintro ⟨sa, sc⟩ -
 dsimp only
 refine CS ?_
 refine VC.meetS (σ := Option Addr × Nat) (fun s => [(3, pV b3), (4, pV b4), (5, pV b5), (7, .slice s.1 (aloC c ch x.n).length s.2)]) (fun s => slH 45 3 s.1 (aloC c ch x.n).length s.2 (flat fdC (aloC c ch x.n)) :: [pt b5 (audC x) 61, pt b4 (ch.cells ca cc) chT, pt b3 (c.cells qa qc) confT]) (fun _ => True) ?_ ?_
 ·refine CS ?_
  refine VC.meetS (σ := Bool) (fun b => [(3, pV b3), (4, pV b4), (5, pV b5), (7, .slice sa (aloB c ch x.n).length sc), (69, .bool b)]) (fun _ => slH 45 3 sa (aloB c ch x.n).length sc (flat fdC (aloB c ch x.n)) :: [pt b5 (audC x) 61, pt b4 (ch.cells ca cc) chT, pt b3 (c.cells qa qc) confT]) (fun b => b = true ↔ (x.n.done < 0 ∨ (x.n.log.length : Int) < x.n.done)) ?_ ?_
  ·refine CG ?_
   refine xdq ?_
   by_cases g1 : x.n.done < 0
   ·refine VG (VY 62 true Z (DT g1) ?_)
    refine xdq ?_
    exact xdr
   refine VG (VY 62 false Z (DF g1) ?_)
   refine xdq ?_
   exact xdz
  rintro b hb
  refine CC Z (fun hbt => ?_) (fun hbf => CK ?_)
  ·have hp := hb.1 hbt
   refine xdq ?_
   refine xea ?_
   refine VG (VO.buildSlice (n := 1) (pv := [(0, .agg (fdC (4, x.n.id, x.n.done)).toArray)]) (fdC (4, x.n.id, x.n.done)) Z Z Z Z yk (fill_one Z Z Z) fun nb => ?_)
   refine VG (VO.append (m := 1) (news := fdC (4, x.n.id, x.n.done)) 1 Z Z Z Z Z Z Z (RdRow.pt 0 Z Z Z) Z (small_bytes (k := 100000) yf yk) yf fun a2 c2 hc2 => ?_)
   refine xdo ?_
   rw [show aloC c ch x.n = aloB c ch x.n ++ [((4, x.n.id, x.n.done) : FindM)] from by unfold aloC; rw [ifF, if_pos hp], List.length_append, flat_append]
   exact xdv
  ·have hp : ¬ (x.n.done < 0 ∨ (x.n.log.length : Int) < x.n.done) := fun h => by rw [hb.2 h] at hbf; cases hbf
   rw [show aloC c ch x.n = aloB c ch x.n from by unfold aloC; rw [ifF, if_neg hp, List.append_nil]]
   exact xdy
 rintro ⟨sa, sc⟩ -
 dsimp only
 refine CS ?_
 refine VC.meetS (σ := Option Addr × Nat) (fun s => [(3, pV b3), (4, pV b4), (5, pV b5), (7, .slice s.1 (aloC c ch x.n ++ queM c x.n (c.qs.length)).length s.2)]) (fun s => slH 45 3 s.1 (aloC c ch x.n ++ queM c x.n (c.qs.length)).length s.2 (flat fdC (aloC c ch x.n ++ queM c x.n (c.qs.length))) :: [pt b5 (audC x) 61, pt b4 (ch.cells ca cc) chT, pt b3 (c.cells qa qc) confT]) (fun _ => True) ?_ ?_
 ·refine xdq ?_
  refine VC.loop (σ := Nat × Option Addr × Nat) (fun s => [(3, pV b3), (4, pV b4), (5, pV b5), (7, .slice s.2.1 (aloC c ch x.n ++ queM c x.n (s.1)).length s.2.2), (80, .int .i64 c.qs.length), (81, .int .i64 s.1)]) (fun s => slH 45 3 s.2.1 (aloC c ch x.n ++ queM c x.n (s.1)).length s.2.2 (flat fdC (aloC c ch x.n ++ queM c x.n (s.1))) :: [pt b5 (audC x) 61, pt b4 (ch.cells ca cc) chT, pt b3 (c.cells qa qc) confT]) (fun s => s.1 ≤ c.qs.length) (fun s => c.qs.length - s.1) (0, sa, sc) (Nat.zero_le _) (SC Z (SC Z (SC Z (SC yaf sbZ)))) yag ?_
  rintro ⟨k, sa, sc⟩ hk
  dsimp only at hk ⊢
  refine xdo ?_
  refine CP (p := (k : Int) < (c.qs.length : Int)) Z (fun h1 => CK ?_) (fun h1 => CX ?_)
  rotate_left
  ·obtain rfl : k = c.qs.length := by omega
   exact xdy
  have lQ : (aloC c ch x.n ++ queM c x.n (k)).length ≤ 2000 := by rw [List.length_append]; have := queM_len c x.n k; omega
  have hsucc := queM_succ c x.n k
  refine CS ?_
  refine VC.meetS (σ := Option Addr × Nat) (fun s => [(3, pV b3), (4, pV b4), (5, pV b5), (7, .slice s.1 (aloC c ch x.n ++ queM c x.n (k + 1)).length s.2), (80, .int .i64 c.qs.length), (81, .int .i64 k)]) (fun s => slH 45 3 s.1 (aloC c ch x.n ++ queM c x.n (k + 1)).length s.2 (flat fdC (aloC c ch x.n ++ queM c x.n (k + 1))) :: [pt b5 (audC x) 61, pt b4 (ch.cells ca cc) chT, pt b3 (c.cells qa qc) confT]) (fun _ => True) ?_ ?_
  rotate_left
  ·rintro ⟨sa, sc⟩ -
   refine xdq ?_
   refine xbq ?_
   refine xdq ?_
   exact ⟨(k + 1, sa, sc), by dsimp only; omega, by dsimp only; omega, sbZ, ER⟩
  refine VC.block ?_
  refine xcb ?_
  show VC _ _ _ _ _
  refine CS ?_
  refine CD (ts 0 15 .nil) yj yl ?_
  refine xeb ?_
  by_cases h0 : k < x.n.waits.length
  rotate_left
  ·refine AG (AY 89 false Z (DF yf) ?_)
   refine xeb ?_
   refine xbh ?_
   rw [show aloC c ch x.n ++ queM c x.n (k + 1) = aloC c ch x.n ++ queM c x.n (k) from by rw [hsucc, List.getElem?_eq_none yf]; show _ ++ (_ ++ []) = _; rw [List.append_nil]]
   exact xdy
  refine AG (AY 89 true Z (DT yf) ?_)
  refine xeb ?_
  obtain ⟨qv, hwq⟩ : ∃ qv, x.n.waits[k]? = some qv := ⟨_, GE h0⟩
  obtain ⟨wb, wo, hwa, hwF, hwc⟩ := hx.waits.at_ (fun e => by rw [e] at h0; exact absurd h0 (Nat.not_lt_zero _))
  refine AG (AI Z (light_idx k yah Z Z Z Z Z h0) ?_)
  refine AG (VA.load Z Z Z (RdL.rd (v := .int .i64 qv) hwF yai) ?_)
  refine xeb ?_
  refine CP (p := c.queue < qv) Z (fun hp => ?_) (fun hp => CK ?_)
  ·skip
   refine xdq ?_
   refine xec ?_
   refine VG (VO.buildSlice (n := 1) (pv := [(0, .agg (fdC (7, x.n.id, (k : Int))).toArray)]) (fdC (7, x.n.id, (k : Int))) Z Z Z Z yk (fill_one Z Z Z) fun nb => ?_)
   refine VG (VO.append (m := 1) (news := fdC (7, x.n.id, (k : Int))) 1 Z Z Z Z Z Z Z (RdRow.pt 0 Z Z Z) Z (small_bytes (k := 100000) yf yk) yf fun a2 c2 hc2 => ?_)
   refine xdo ?_
   rw [show aloC c ch x.n ++ queM c x.n (k + 1) = aloC c ch x.n ++ queM c x.n (k) ++ [((7, x.n.id, (k : Int)) : FindM)] from by rw [hsucc, hwq]; show _ ++ (_ ++ ifF _ _) = _; rw [ifF, if_pos hp, List.append_assoc], List.length_append, flat_append]
   exact xdv
  ·skip
   rw [show aloC c ch x.n ++ queM c x.n (k + 1) = aloC c ch x.n ++ queM c x.n (k) from by rw [hsucc, hwq]; show _ ++ (_ ++ ifF _ _) = _; rw [ifF, if_neg hp, List.append_nil]]
   exact xdy
 rintro ⟨sa, sc⟩ -
 dsimp only
 have lQ : (aloC c ch x.n ++ queM c x.n (c.qs.length)).length ≤ 2000 := by rw [List.length_append]; have := queM_len c x.n c.qs.length; omega
 refine CS ?_
 refine VC.meetS (σ := Option Addr × Nat) (fun s => [(3, pV b3), (4, pV b4), (5, pV b5), (7, .slice s.1 (aloneM c ch x.n).length s.2)]) (fun s => slH 45 3 s.1 (aloneM c ch x.n).length s.2 (flat fdC (aloneM c ch x.n)) :: [pt b5 (audC x) 61, pt b4 (ch.cells ca cc) chT, pt b3 (c.cells qa qc) confT]) (fun _ => True) ?_ ?_
 ·refine xdq ?_
  refine CP (p := c.reads < x.n.reading) Z (fun hp => ?_) (fun hp => CK ?_)
  ·skip
   refine xdq ?_
   refine xed ?_
   refine VG (VO.buildSlice (n := 1) (pv := [(0, .agg (fdC (8, x.n.id, x.n.reading)).toArray)]) (fdC (8, x.n.id, x.n.reading)) Z Z Z Z yk (fill_one Z Z Z) fun nb => ?_)
   refine VG (VO.append (m := 1) (news := fdC (8, x.n.id, x.n.reading)) 1 Z Z Z Z Z Z Z (RdRow.pt 0 Z Z Z) Z (small_bytes (k := 100000) yf yk) yf fun a2 c2 hc2 => ?_)
   refine xdo ?_
   rw [show aloneM c ch x.n = aloC c ch x.n ++ queM c x.n (c.qs.length) ++ [((8, x.n.id, x.n.reading) : FindM)] from by unfold aloneM; rw [ifF, if_pos hp], List.length_append, flat_append]
   exact xdv
  ·skip
   rw [show aloneM c ch x.n = aloC c ch x.n ++ queM c x.n (c.qs.length) from by unfold aloneM; rw [ifF, if_neg hp, List.append_nil]]
   exact xdy
 rintro ⟨sa, sc⟩ -
 refine xdo ?_
 exact CR (Ret.tmp 6 Z Z (IP 0 Z (Imp.nil)).ent ⟨sa, sc, Z, Z⟩)
theorem own_spec {c : ConfM} (hf : c = fitM c) {qa : Option Addr} {qc : Nat} {ch : ChM} {ca : Option Addr} {cc : Nat} (hch : RwIn memC 2 Fr w ca ch.ms) (hchl : ch.ms.length ≤ 1000) {x : AudR} (hx : AudIn Fr w x) :
  Tri Tryz.prog 21 [.agg (c.cells qa qc).toArray, .agg (ch.cells ca cc).toArray, .agg (audC x).toArray] Fr w [] (fun v L => ∃ a cap, v = .slice a (aloneM c ch x.n).length cap ∧ L = [slH 44 3 a (aloneM c ch x.n).length cap (flat fdC (aloneM c ch x.n))]) := by
 have hcb := conf_bounds hf
 have hql : c.qs.length ≤ 1000 := by
  have h2 : c.qs = qFit c.qs := congrArg ConfM.qs hf
  have := qFit_len c.qs
  rw [← h2] at this; omega
 have hwl := hx.wl; have hll := hx.ll
 have lA : (aloA ch x.n).length ≤ 1 := ifF_len _ _
 have lB : (aloB c ch x.n).length ≤ 2 := by unfold aloB; rw [List.length_append]; have := ifF_len (x.n.done < (x.n.log.length : Int) - c.window) (3, x.n.id, (x.n.log.length : Int)); omega
 have lC : (aloC c ch x.n).length ≤ 3 := by unfold aloC; rw [List.length_append]; have := ifF_len (x.n.done < 0 ∨ (x.n.log.length : Int) < x.n.done) (4, x.n.id, x.n.done); omega
 refine TF 119 Tryz.func21 Z yj tabOk Z Z ?_
 refine CS (CG (VG (VB (vs := c.cells qa qc) Z fun b3 => VG (VB (vs := ch.cells ca cc) Z fun b4 => VG (VB (vs := audC x) Z fun b5 => VG (VN ?_))))))
 refine CN (L' := slH 44 3 none 0 0 [] :: [pt b5 (audC x) 71, pt b4 (ch.cells ca cc) chT, pt b3 (c.cells qa qc) confT]) (Imp.slNil Imp.refl).ent ?_
 refine xcb ?_
 show VC _ _ _ _ _
 refine CS ?_
 refine VC.meetS (σ := Option Addr × Nat) (fun s => [(3, pV b3), (4, pV b4), (5, pV b5), (7, .slice s.1 (aloA ch x.n).length s.2)]) (fun s => slH 44 3 s.1 (aloA ch x.n).length s.2 (flat fdC (aloA ch x.n)) :: [pt b5 (audC x) 71, pt b4 (ch.cells ca cc) chT, pt b3 (c.cells qa qc) confT]) (fun _ => True) ?_ ?_
 ·refine CS ?_
  refine VC.meetS (σ := Bool) (fun b => [(3, pV b3), (4, pV b4), (5, pV b5), (7, .slice none 0 0), (29, .bool b)]) (fun _ => slH 44 3 none 0 0 [] :: [pt b5 (audC x) 71, pt b4 (ch.cells ca cc) chT, pt b3 (c.cells qa qc) confT]) (fun b => b = true ↔ (ch.epoch < x.n.ch.epoch ∨ x.n.ch.epoch = ch.epoch ∧ x.n.ch ≠ ch)) ?_ ?_
  ·refine CG ?_
   refine xdq ?_
   by_cases g1 : ch.epoch < x.n.ch.epoch
   ·refine VG (VY 15 true Z (DT g1) ?_)
    refine xdq ?_
    exact xdr
   refine VG (VY 15 false Z (DF g1) ?_)
   refine xdq ?_
   by_cases g2 : x.n.ch.epoch = ch.epoch
   rotate_left
   ·refine VG (VY 22 false Z yaa ?_)
    refine xdq ?_
    exact ⟨false, ⟨fun h => yab, fun h => absurd h yac⟩, sbZ, ER⟩
   refine VG (VY 22 true Z (by rw [beq_iff_eq]; exact g2) ?_)
   refine xdq ?_
   refine VG (VL 1 (x.n.ch.cells x.ma x.mc) Z Z Z Z ?_)
   refine VG (VL 2 (ch.cells ca cc) Z Z Z Z ?_)
   refine VG (VV (fun Fr w hF hs hS => rsame_spec Fr w (hx.ms.of hF hs) (hch.of hF hs) (by have := hx.msl; omega) yf) Z ?_)
   refine xdq ?_
   by_cases g3 : x.n.ch = ch
   ·exact xds
   ·exact xdt
  rintro b hb
  refine CC Z (fun hbt => ?_) (fun hbf => CK ?_)
  ·have hp := hb.1 hbt
   refine xdq ?_
   refine xdu ?_
   refine VG (VO.buildSlice (n := 1) (pv := [(0, .agg (fdC (2, x.n.id, x.n.ch.epoch)).toArray)]) (fdC (2, x.n.id, x.n.ch.epoch)) Z Z Z Z yk (fill_one Z Z Z) fun nb => ?_)
   refine VG (VO.append (m := 1) (news := fdC (2, x.n.id, x.n.ch.epoch)) 1 Z Z Z Z Z Z Z (RdRow.pt 0 Z Z Z) Z (small_bytes (k := 100000) yf yk) yf fun a2 c2 hc2 => ?_)
   refine xdo ?_
   rw [show aloA ch x.n = [((2, x.n.id, x.n.ch.epoch) : FindM)] from by unfold aloA; rw [ifF, if_pos hp]]
   exact xdv
  ·have hp : ¬ (ch.epoch < x.n.ch.epoch ∨ x.n.ch.epoch = ch.epoch ∧ x.n.ch ≠ ch) := fun h => by rw [hb.2 h] at hbf; cases hbf
   rw [show aloA ch x.n = [] from by unfold aloA; rw [ifF, if_neg hp]]
   exact xdw
 rintro ⟨sa, sc⟩ -
 dsimp only
 refine CS ?_
 refine VC.meetS (σ := Option Addr × Nat) (fun s => [(3, pV b3), (4, pV b4), (5, pV b5), (7, .slice s.1 (aloB c ch x.n).length s.2)]) (fun s => slH 44 3 s.1 (aloB c ch x.n).length s.2 (flat fdC (aloB c ch x.n)) :: [pt b5 (audC x) 71, pt b4 (ch.cells ca cc) chT, pt b3 (c.cells qa qc) confT]) (fun _ => True) ?_ ?_
 ·refine xdq ?_
  refine VG (VO.sub' Z Z yf yf ?_)
  refine xdq ?_
  refine CP (p := x.n.done < (x.n.log.length : Int) - c.window) Z (fun hp => ?_) (fun hp => CK ?_)
  ·skip
   refine xdq ?_
   refine xdx ?_
   refine VG (VO.buildSlice (n := 1) (pv := [(0, .agg (fdC (3, x.n.id, (x.n.log.length : Int))).toArray)]) (fdC (3, x.n.id, (x.n.log.length : Int))) Z Z Z Z yk (fill_one Z Z Z) fun nb => ?_)
   refine VG (VO.append (m := 1) (news := fdC (3, x.n.id, (x.n.log.length : Int))) 1 Z Z Z Z Z Z Z (RdRow.pt 0 Z Z Z) Z (small_bytes (k := 100000) yf yk) yf fun a2 c2 hc2 => ?_)
   refine xdo ?_
   rw [show aloB c ch x.n = aloA ch x.n ++ [((3, x.n.id, (x.n.log.length : Int)) : FindM)] from by unfold aloB; rw [ifF, if_pos hp], List.length_append, flat_append]
   exact xdv
  ·skip
   rw [show aloB c ch x.n = aloA ch x.n from by unfold aloB; rw [ifF, if_neg hp, List.append_nil]]
   exact xdy
 rintro ⟨sa, sc⟩ -
 dsimp only
 refine CS ?_
 refine VC.meetS (σ := Option Addr × Nat) (fun s => [(3, pV b3), (4, pV b4), (5, pV b5), (7, .slice s.1 (aloC c ch x.n).length s.2)]) (fun s => slH 44 3 s.1 (aloC c ch x.n).length s.2 (flat fdC (aloC c ch x.n)) :: [pt b5 (audC x) 71, pt b4 (ch.cells ca cc) chT, pt b3 (c.cells qa qc) confT]) (fun _ => True) ?_ ?_
 ·refine CS ?_
  refine VC.meetS (σ := Bool) (fun b => [(3, pV b3), (4, pV b4), (5, pV b5), (7, .slice sa (aloB c ch x.n).length sc), (67, .bool b)]) (fun _ => slH 44 3 sa (aloB c ch x.n).length sc (flat fdC (aloB c ch x.n)) :: [pt b5 (audC x) 71, pt b4 (ch.cells ca cc) chT, pt b3 (c.cells qa qc) confT]) (fun b => b = true ↔ (x.n.done < 0 ∨ (x.n.log.length : Int) < x.n.done)) ?_ ?_
  ·refine CG ?_
   refine xdq ?_
   by_cases g1 : x.n.done < 0
   ·refine VG (VY 60 true Z (DT g1) ?_)
    refine xdq ?_
    exact xdr
   refine VG (VY 60 false Z (DF g1) ?_)
   refine xdq ?_
   exact xdz
  rintro b hb
  refine CC Z (fun hbt => ?_) (fun hbf => CK ?_)
  ·have hp := hb.1 hbt
   refine xdq ?_
   refine xea ?_
   refine VG (VO.buildSlice (n := 1) (pv := [(0, .agg (fdC (4, x.n.id, x.n.done)).toArray)]) (fdC (4, x.n.id, x.n.done)) Z Z Z Z yk (fill_one Z Z Z) fun nb => ?_)
   refine VG (VO.append (m := 1) (news := fdC (4, x.n.id, x.n.done)) 1 Z Z Z Z Z Z Z (RdRow.pt 0 Z Z Z) Z (small_bytes (k := 100000) yf yk) yf fun a2 c2 hc2 => ?_)
   refine xdo ?_
   rw [show aloC c ch x.n = aloB c ch x.n ++ [((4, x.n.id, x.n.done) : FindM)] from by unfold aloC; rw [ifF, if_pos hp], List.length_append, flat_append]
   exact xdv
  ·have hp : ¬ (x.n.done < 0 ∨ (x.n.log.length : Int) < x.n.done) := fun h => by rw [hb.2 h] at hbf; cases hbf
   rw [show aloC c ch x.n = aloB c ch x.n from by unfold aloC; rw [ifF, if_neg hp, List.append_nil]]
   exact xdy
 rintro ⟨sa, sc⟩ -
 dsimp only
 refine CS ?_
 refine VC.meetS (σ := Option Addr × Nat) (fun s => [(3, pV b3), (4, pV b4), (5, pV b5), (7, .slice s.1 (aloC c ch x.n ++ queM c x.n (c.qs.length)).length s.2)]) (fun s => slH 44 3 s.1 (aloC c ch x.n ++ queM c x.n (c.qs.length)).length s.2 (flat fdC (aloC c ch x.n ++ queM c x.n (c.qs.length))) :: [pt b5 (audC x) 71, pt b4 (ch.cells ca cc) chT, pt b3 (c.cells qa qc) confT]) (fun _ => True) ?_ ?_
 ·refine xdq ?_
  refine VC.loop (σ := Nat × Option Addr × Nat) (fun s => [(3, pV b3), (4, pV b4), (5, pV b5), (7, .slice s.2.1 (aloC c ch x.n ++ queM c x.n (s.1)).length s.2.2), (8, .int .i64 s.1)]) (fun s => slH 44 3 s.2.1 (aloC c ch x.n ++ queM c x.n (s.1)).length s.2.2 (flat fdC (aloC c ch x.n ++ queM c x.n (s.1))) :: [pt b5 (audC x) 71, pt b4 (ch.cells ca cc) chT, pt b3 (c.cells qa qc) confT]) (fun s => s.1 ≤ c.qs.length ∧ s.1 ≤ x.n.waits.length) (fun s => c.qs.length - s.1) (0, sa, sc) ⟨Nat.zero_le _, Nat.zero_le _⟩ (SC Z (SC Z (SC Z (SC yaf sbZ)))) yag ?_
  rintro ⟨k, sa, sc⟩ hk
  dsimp only at hk ⊢
  refine xdq ?_
  by_cases h0 : k < x.n.waits.length
  rotate_left
  ·refine VG (VY 81 false Z (DF yf) ?_)
   refine xdq ?_
   refine xdn ?_
   rw [show queM c x.n (c.qs.length) = queM c x.n k from by rw [queM_out c x.n (k := c.qs.length) yf, queM_out c x.n (k := k) yf]]
   exact xdy
  refine VG (VY 81 true Z (DT yf) ?_)
  refine xdq ?_
  refine CP (p := (k : Int) < (c.qs.length : Int)) Z (fun h1 => CK ?_) (fun h1 => CX ?_)
  rotate_left
  ·obtain rfl : k = c.qs.length := by omega
   exact xdy
  have lQ : (aloC c ch x.n ++ queM c x.n (k)).length ≤ 2000 := by rw [List.length_append]; have := queM_len c x.n k; omega
  have hsucc := queM_succ c x.n k
  refine CS ?_
  refine VC.meetS (σ := Option Addr × Nat) (fun s => [(3, pV b3), (4, pV b4), (5, pV b5), (7, .slice s.1 (aloC c ch x.n ++ queM c x.n (k + 1)).length s.2), (8, .int .i64 k)]) (fun s => slH 44 3 s.1 (aloC c ch x.n ++ queM c x.n (k + 1)).length s.2 (flat fdC (aloC c ch x.n ++ queM c x.n (k + 1))) :: [pt b5 (audC x) 71, pt b4 (ch.cells ca cc) chT, pt b3 (c.cells qa qc) confT]) (fun _ => True) ?_ ?_
  rotate_left
  ·rintro ⟨sa, sc⟩ -
   refine xdq ?_
   refine xbq ?_
   refine xdq ?_
   exact ⟨(k + 1, sa, sc), ⟨by dsimp only; omega, by dsimp only; omega⟩, by dsimp only; omega, sbZ, ER⟩
  refine VC.block (CS ?_)
  refine CD (ts 0 8 .nil) yj yl ?_
  refine xeb ?_
  obtain ⟨qv, hwq⟩ : ∃ qv, x.n.waits[k]? = some qv := ⟨_, GE h0⟩
  obtain ⟨wb, wo, hwa, hwF, hwc⟩ := hx.waits.at_ (fun e => by rw [e] at h0; exact absurd h0 (Nat.not_lt_zero _))
  refine AG (AI Z (light_idx k yah Z Z Z Z Z h0) ?_)
  refine AG (VA.load Z Z Z (RdL.rd (v := .int .i64 qv) hwF yai) ?_)
  refine xeb ?_
  refine CP (p := c.queue < qv) Z (fun hp => ?_) (fun hp => CK ?_)
  ·skip
   refine xdq ?_
   refine xec ?_
   refine VG (VO.buildSlice (n := 1) (pv := [(0, .agg (fdC (7, x.n.id, (k : Int))).toArray)]) (fdC (7, x.n.id, (k : Int))) Z Z Z Z yk (fill_one Z Z Z) fun nb => ?_)
   refine VG (VO.append (m := 1) (news := fdC (7, x.n.id, (k : Int))) 1 Z Z Z Z Z Z Z (RdRow.pt 0 Z Z Z) Z (small_bytes (k := 100000) yf yk) yf fun a2 c2 hc2 => ?_)
   refine xdo ?_
   rw [show aloC c ch x.n ++ queM c x.n (k + 1) = aloC c ch x.n ++ queM c x.n (k) ++ [((7, x.n.id, (k : Int)) : FindM)] from by rw [hsucc, hwq]; show _ ++ (_ ++ ifF _ _) = _; rw [ifF, if_pos hp, List.append_assoc], List.length_append, flat_append]
   exact xdv
  ·skip
   rw [show aloC c ch x.n ++ queM c x.n (k + 1) = aloC c ch x.n ++ queM c x.n (k) from by rw [hsucc, hwq]; show _ ++ (_ ++ ifF _ _) = _; rw [ifF, if_neg hp, List.append_nil]]
   exact xdy
 rintro ⟨sa, sc⟩ -
 dsimp only
 have lQ : (aloC c ch x.n ++ queM c x.n (c.qs.length)).length ≤ 2000 := by rw [List.length_append]; have := queM_len c x.n c.qs.length; omega
 refine CS ?_
 refine VC.meetS (σ := Option Addr × Nat) (fun s => [(3, pV b3), (4, pV b4), (5, pV b5), (7, .slice s.1 (aloneM c ch x.n).length s.2)]) (fun s => slH 44 3 s.1 (aloneM c ch x.n).length s.2 (flat fdC (aloneM c ch x.n)) :: [pt b5 (audC x) 71, pt b4 (ch.cells ca cc) chT, pt b3 (c.cells qa qc) confT]) (fun _ => True) ?_ ?_
 ·refine xdq ?_
  refine CP (p := c.reads < x.n.reading) Z (fun hp => ?_) (fun hp => CK ?_)
  ·skip
   refine xdq ?_
   refine xed ?_
   refine VG (VO.buildSlice (n := 1) (pv := [(0, .agg (fdC (8, x.n.id, x.n.reading)).toArray)]) (fdC (8, x.n.id, x.n.reading)) Z Z Z Z yk (fill_one Z Z Z) fun nb => ?_)
   refine VG (VO.append (m := 1) (news := fdC (8, x.n.id, x.n.reading)) 1 Z Z Z Z Z Z Z (RdRow.pt 0 Z Z Z) Z (small_bytes (k := 100000) yf yk) yf fun a2 c2 hc2 => ?_)
   refine xdo ?_
   rw [show aloneM c ch x.n = aloC c ch x.n ++ queM c x.n (c.qs.length) ++ [((8, x.n.id, x.n.reading) : FindM)] from by unfold aloneM; rw [ifF, if_pos hp], List.length_append, flat_append]
   exact xdv
  ·skip
   rw [show aloneM c ch x.n = aloC c ch x.n ++ queM c x.n (c.qs.length) from by unfold aloneM; rw [ifF, if_neg hp, List.append_nil]]
   exact xdy
 rintro ⟨sa, sc⟩ -
 refine xdo ?_
 exact CR (Ret.tmp 6 Z Z (IP 0 Z (Imp.nil)).ent ⟨sa, sc, Z, Z⟩)
end Au
namespace Au
open Go Vg T Api Kv Ch Lg Rd Conf Rep Sched Adm
attribute [local irreducible] VO VC VA
def triC (x : TriM) : List Value := [.int .i64 x.1, .int .i64 x.2.1, .int .i64 x.2.2]
theorem triC_len (x : TriM) : (triC x).length = 3 := rfl
structure VwR where
 ch : ChM
 ma : Option Addr
 mc : Nat
 rows : List AudR
 na : Option Addr
 nc : Nat
 done : List EntryM
 da : Option Addr
 dc : Nat
 mail : List TriM
 xa : Option Addr
 xc : Nat
def vwC (V : VwR) : List Value := [.int .i64 V.ch.epoch, .slice V.ma V.ch.ms.length V.mc, .int .i64 V.ch.drain, .slice V.na V.rows.length V.nc, .slice V.da V.done.length V.dc, .slice V.xa V.mail.length V.xc]
def VwR.v (V : VwR) : AudV := ⟨V.ch, V.rows.map AudR.n, V.done, V.mail⟩
structure VwIn (Fr : Nat → Prop) (w : World) (V : VwR) : Prop where
 ms : RwIn memC 2 Fr w V.ma V.ch.ms
 rows : RwIn audC 9 Fr w V.na V.rows
 each : ∀ x ∈ V.rows, AudIn Fr w x
 done : RwIn entC 7 Fr w V.da V.done
 mail : RwIn triC 3 Fr w V.xa V.mail
 msl : V.ch.ms.length ≤ 1000
 rl : V.rows.length ≤ 1000
 dl : V.done.length ≤ 5000
 xl : V.mail.length ≤ 5000
theorem VwIn.of {X : Cx} {V : VwR} (h : VwIn X.Fr X.w0 V) {Fr' : Nat → Prop} {w : World} {L : List HP} (hF : ∀ b, X.Fr b → Fr' b) (hw : St X L w) : VwIn Fr' w V := ⟨h.ms.of hF hw, h.rows.of hF hw, fun x hx => (h.each x hx).of hF hw, h.done.of hF hw, h.mail.of hF hw, h.msl, h.rl, h.dl, h.xl⟩
theorem seen_none : ∀ {xs : List AudR} {id : Int}, (∀ (j : Nat) (x : AudR), xs[j]? = some x → x.n.id ≠ id) → seenM (xs.map AudR.n) id = none
 | [], id, _ => rfl
 | y :: ys, id, h => by
  have h0 := h 0 y rfl
  unfold seenM
  rw [List.map_cons, List.find?_cons, beq_eq_false_iff_ne.2 h0]
  exact seen_none fun j x hj => h (j + 1) x (by simpa using hj)
theorem seen_some : ∀ {xs : List AudR} {id : Int} {k : Nat} {x : AudR}, xs[k]? = some x → x.n.id = id → (∀ (j : Nat) (y : AudR), j < k → xs[j]? = some y → y.n.id ≠ id) → seenM (xs.map AudR.n) id = some x.n
 | [], id, k, x, h, _, _ => by simp at h
 | y :: ys, id, 0, x, h, e, _ => by
  obtain rfl : y = x := by simpa using h
  unfold seenM
  rw [List.map_cons, List.find?_cons, beq_iff_eq.2 e]
 | y :: ys, id, k + 1, x, h, e, hn => by
  have h0 := hn 0 y yf rfl
  unfold seenM
  rw [List.map_cons, List.find?_cons, beq_eq_false_iff_ne.2 h0]
  exact seen_some (k := k) yd e fun j z hj hz => hn (j + 1) z yf (by simpa using hz)
def SeenR (a : Option Addr) (xs : List AudR) (id : Int) (v : Value) : Prop := (v = .pointer none ∧ seenM (xs.map AudR.n) id = none) ∨ ∃ (k : Nat) (x : AudR) (b off : Nat), xs[k]? = some x ∧ a = some ⟨b, off, none⟩ ∧ v = .pointer (some ⟨b, off + k * 9, none⟩) ∧ seenM (xs.map AudR.n) id = some x.n
theorem seen_spec {a : Option Addr} {cap : Nat} {xs : List AudR} (hx : RwIn audC 9 Fr w a xs) (hl : xs.length ≤ 1000) (id : Int) :
  Tri Tryz.prog 51 [.slice a xs.length cap, .int .i64 id] Fr w [] (fun v L => SeenR a xs id v ∧ L = []) := by
 refine TF 22 Tryz.func51 Z yj tabOk Z Z ?_
 refine xdl ?_
 refine VC.loop (σ := Nat) (fun n => [(0, .slice a xs.length cap), (1, .int .i64 id), (7, .int .i64 xs.length), (8, .int .i64 n)]) (fun _ => []) (fun n => n ≤ xs.length ∧ ∀ (j : Nat) (y : AudR), j < n → xs[j]? = some y → y.n.id ≠ id) (fun n => xs.length - n) 0
  ⟨Nat.zero_le _, fun j y hj => absurd hj (Nat.not_lt_zero j)⟩ sbZ ER ?_
 rintro n ⟨hn, hall⟩
 refine xdl ?_
 refine CP (p := (n : Int) < (xs.length : Int)) Z (fun h2 => CK ?_) (fun h2 => CX ?_)
 rotate_left
 ·refine xdl ?_
  exact CR (Ret.tmp 4 Z Z ER ⟨.inl ⟨rfl, seen_none fun j y hj => by
   by_cases hjn : j < n
   ·exact hall j y hjn hj
   ·rw [List.getElem?_eq_none yf] at hj; cases hj⟩, rfl⟩)
 obtain ⟨x, hxk⟩ : ∃ x, xs[n]? = some x := ⟨_, GE yf⟩
 obtain ⟨mb, mo, hma, ra, rc⟩ := RwIn.rd (X := ⟨Tryz.prog, tab, tabOk, 22, Fr, w⟩) hx hxk
 subst hma
 refine xca ?_
 refine xcb ?_
 show VC _ _ _ _ _
 refine xcc ?_
 refine VG (VI (light_idx n Z Z Z Z Z yf yf) ?_)
 refine xdf ?_
 refine xdl ?_
 refine CE (i := x.n.id) (j := id) Z (fun h3 => ?_) (fun h3 => CK ?_)
 ·refine xcc ?_
  refine VG (VI (light_idx n Z Z Z Z Z yf yf) ?_)
  refine xcd ?_
  exact CR (Ret.tmp 4 Z Z ER ⟨.inr ⟨n, x, mb, mo, hxk, Z, Z, seen_some hxk h3 hall⟩, Z⟩)
 ·refine xdl ?_
  refine xbq ?_
  refine xdl ?_
  exact ⟨n + 1, ⟨by omega, fun j y hj hy => by
   by_cases hjn : j = n
   ·subst hjn; rw [hxk] at hy; cases hy; exact h3
   ·exact hall j y yf hy⟩, by dsimp only; omega, sbZ, ER⟩
def audZ : List Value := [.int .i64 0, .int .i64 0, .int .i64 0, .int .i64 0, .int .i64 0, .slice none 0 0, .int .i64 0, .slice none 0 0, .slice none 0 0]
def RseenR (xs : List AudR) (m : MemM) (v : Value) : Prop := (v = .tuple #[.agg audZ.toArray, .bool false] ∧ seenM (xs.map AudR.n) m.1 = none) ∨ ∃ (k : Nat) (x : AudR), xs[k]? = some x ∧ v = .tuple #[.agg (audC x).toArray, .bool (x.n.since == m.2)] ∧ seenM (xs.map AudR.n) m.1 = some x.n
theorem rseen_spec {V : VwR} (hV : VwIn Fr w V) (m : MemM) :
  Tri Tryz.prog 22 [.agg (vwC V).toArray, .agg (memC m).toArray] Fr w [] (fun v L => RseenR V.rows m v ∧ L = []) := by
 have hx := hV.rows; have hl := hV.rl
 refine TF 38 Tryz.func22 Z yj tabOk Z Z ?_
 refine CS (CG (VG (VB (vs := vwC V) Z fun b2 => VG (VB (vs := memC m) Z fun b3 => VG (VO.alloc Z fun b4 => VG (VN ?_))))))
 refine xdl ?_
 refine VC.loop (σ := Nat) (fun n => [(2, pV b2), (3, pV b3), (4, pV b4), (6, .int .i64 n)]) (fun _ => [pt b4 audZ 71, pt b3 (memC m) memT, pt b2 (vwC V) 41]) (fun n => n ≤ V.rows.length ∧ ∀ (j : Nat) (y : AudR), j < n → V.rows[j]? = some y → y.n.id ≠ m.1) (fun n => V.rows.length - n) 0
  ⟨Nat.zero_le _, fun j y hj => absurd hj (Nat.not_lt_zero j)⟩ sbZ ER ?_
 rintro n ⟨hn, hall⟩
 refine xbw ?_
 refine CP (p := (n : Int) < (V.rows.length : Int)) Z (fun h2 => CK ?_) (fun h2 => CX ?_)
 rotate_left
 ·refine xcc ?_
  refine VG (VI (LB (pv := []) audZ Z Z Z yj Z) ?_)
  refine VG (VT (vs := audZ) (cs' := audZ) 0 Z Z Z Z (NR _) Z Z Z ?_)
  refine xdl ?_
  exact CR (Ret.cellTmp 4 5 Z Z Z (RdL.many (ds := audZ) 0 Z Z) Z Imp.nil.ent ⟨.inl ⟨rfl, seen_none fun j y hj => by
   by_cases hjn : j < n
   ·exact hall j y hjn hj
   ·rw [List.getElem?_eq_none yf] at hj; cases hj⟩, rfl⟩)
 have hn2 : n < V.rows.length := by omega
 obtain ⟨x, hxk⟩ : ∃ x, V.rows[n]? = some x := ⟨_, GE hn2⟩
 obtain ⟨mb, mo, hma, ra, rc⟩ := RwIn.rd (X := ⟨Tryz.prog, tab, tabOk, 38, Fr, w⟩) hx hxk
 have hv : (Value.slice V.na V.rows.length V.nc) = .slice (some ⟨mb, mo, none⟩) V.rows.length V.nc := by rw [hma]
 refine CS (VC.block (CS ?_))
 refine xdh ?_
 refine xee ?_
 refine xef ?_
 refine AG (VA.load Z Z Z (rc _ _ 0 _ Z Z) ?_)
 refine xee ?_
 refine CE (i := x.n.id) (j := m.1) Z (fun h3 => ?_) (fun h3 => CK ?_)
 ·refine CS ?_
  refine CD (ts 0 14 (.only 14 (.take 15 .nil))) yj yl ?_
  refine xee ?_
  refine xef ?_
  refine xdi ?_
  refine xee ?_
  refine xef ?_
  refine AG (VA.load Z Z Z (rc _ _ 1 _ Z Z) ?_)
  refine xee ?_
  refine AG (AT (vs := audC x) (cs' := audC x) 0 Z Z Z Z Z (NR _) Z Z Z (by (try refine Pd.st ?_);(repeat (first|exact Pd.nil|exact Pd.fnil|refine Pd.inner ?_|refine Pd.skip yl ?_|refine zf (zo 0 Z Z) ?_|refine zf (zo 1 Z Z) ?_|refine zf (zo 2 Z Z) ?_|refine zf (zm 0 Z Z) ?_|refine zf (zm 1 Z Z) ?_|refine zf (zm 2 Z Z) ?_|refine zf (RdL.blk (ra _ _ Z Z) Z) ?_|refine zf (RdL.blk (rc _ _ 0 _ Z Z) Z) ?_|refine zf (RdL.blk (rc _ _ 1 _ Z Z) Z) ?_|refine zf ((ra _ _ Z Z)) ?_|refine zf ((rc _ _ 0 _ Z Z)) ?_|refine zf ((rc _ _ 1 _ Z Z)) ?_|refine zc (zo 0 Z Z) ?_|refine zc (zo 1 Z Z) ?_|refine zc (zo 2 Z Z) ?_|refine zc (zm 0 Z Z) ?_|refine zc (zm 1 Z Z) ?_|refine zc (zm 2 Z Z) ?_|refine zc (RdL.blk (ra _ _ Z Z) Z) ?_|refine zc (RdL.blk (rc _ _ 0 _ Z Z) Z) ?_|refine zc (RdL.blk (rc _ _ 1 _ Z Z) Z) ?_|refine zc ((ra _ _ Z Z)) ?_|refine zc ((rc _ _ 0 _ Z Z)) ?_|refine zc ((rc _ _ 1 _ Z Z)) ?_))) ?_)
  refine xdp ?_
  exact CR (Ret.cellTmp 4 5 Z Z Z (RdL.many (ds := audC x) 0 Z Z) Z Imp.nil.ent ⟨.inr ⟨n, x, hxk, Z, seen_some hxk h3 hall⟩, Z⟩)
 ·refine xdl ?_
  refine xbq ?_
  refine xdl ?_
  exact ⟨n + 1, ⟨by omega, fun j y hj hy => by
   by_cases hjn : j = n
   ·subst hjn; rw [hxk] at hy; cases hy; exact h3
   ·exact hall j y yf hy⟩, by dsimp only; omega, sbZ, ER⟩
def AhOk (V : VwR) (s : Option AudN) (p : Option Addr) : Prop := (s = none ∧ p = none) ∨ ∃ (k : Nat) (x : AudR) (b off : Nat), V.rows[k]? = some x ∧ V.na = some ⟨b, off, none⟩ ∧ p = some ⟨b, off + k * 9, none⟩ ∧ s = some x.n
theorem together_spec {V : VwR} (hV : VwIn Fr w V) :
  Tri Tryz.prog 18 [.agg (vwC V).toArray] Fr w [] (fun v L => ∃ a cap, v = .slice a ((togM V.v (V.ch.ms.length) []).1).length cap ∧ L = [slH 45 3 a ((togM V.v (V.ch.ms.length) []).1).length cap (flat fdC ((togM V.v (V.ch.ms.length) []).1))]) := by
 have hx := hV.rows; have hl := hV.rl; have hml := hV.msl; have hdl := hV.dl
 refine TF 94 Tryz.func18 Z yj tabOk Z Z ?_
 refine CS (CG (VG (VB (vs := vwC V) Z fun b1 => VG (VN ?_))))
 refine CN (L' := [slH 45 3 none 0 0 [], pt b1 (vwC V) 32]) (Imp.slNil Imp.refl).ent ?_
 refine xbz ?_
 refine VC.loop (σ := Nat × Option Addr × Nat × Option Addr) (fun s => [(1, pV b1), (3, .slice s.2.1 ((togM V.v (s.1) []).1).length s.2.2.1), (4, .pointer s.2.2.2), (12, .slice V.ma V.ch.ms.length V.mc), (13, .int .i64 V.ch.ms.length), (14, .int .i64 s.1)]) (fun s => [slH 45 3 s.2.1 ((togM V.v (s.1) []).1).length s.2.2.1 (flat fdC ((togM V.v (s.1) []).1)), pt b1 (vwC V) 32]) (fun s => s.1 ≤ V.ch.ms.length ∧ AhOk V (togM V.v s.1 []).2 s.2.2.2) (fun s => V.ch.ms.length - s.1) (0, none, 0, none)
  ⟨Nat.zero_le _, .inl ⟨rfl, rfl⟩⟩ sbZ ER ?_
 rintro ⟨i, sa, sc, p⟩ ⟨hi, hah⟩
 dsimp only at hi hah ⊢
 refine xdo ?_
 refine CP (p := (i : Int) < (V.ch.ms.length : Int)) Z (fun h2 => CK ?_) (fun h2 => CX ?_)
 rotate_left
 ·obtain rfl : i = V.ch.ms.length := by omega
  refine xdo ?_
  exact CR (Ret.tmp 2 Z Z (IP 0 Z (Imp.nil)).ent ⟨sa, sc, Z, Z⟩)
 have hi2 : i < V.ch.ms.length := by omega
 obtain ⟨m, hm⟩ : ∃ m, V.ch.ms[i]? = some m := ⟨_, GE hi2⟩
 obtain ⟨qb, qo, hqa, qra, qrc⟩ := RwIn.rd (X := ⟨Tryz.prog, tab, tabOk, 94, Fr, w⟩) hV.ms hm
 have hsucc := togM_succ V.v hm []
 have hlen := togM_len V.v i
 have hlen2 := togM_len V.v (i + 1)
 refine CS ?_
 refine VC.meetS (σ := Option Addr × Nat × Option Addr) (fun s => [(1, pV b1), (3, .slice s.1 ((togM V.v (i + 1) []).1).length s.2.1), (4, .pointer s.2.2), (12, .slice V.ma V.ch.ms.length V.mc), (13, .int .i64 V.ch.ms.length), (14, .int .i64 i)]) (fun s => [slH 45 3 s.1 ((togM V.v (i + 1) []).1).length s.2.1 (flat fdC ((togM V.v (i + 1) []).1)), pt b1 (vwC V) 32]) (fun s => AhOk V (togM V.v (i + 1) []).2 s.2.2) ?_ ?_
 rotate_left
 ·rintro ⟨sa, sc, p⟩ hp
  refine zff ?_
  exact ⟨(i + 1, sa, sc, p), ⟨hi2, hp⟩, by dsimp only; omega, sbZ, ER⟩
 refine VC.block ?_
 refine xcc ?_
 refine VG (VI (light_idx i (by show some (Value.slice V.ma V.ch.ms.length V.mc) = _; rw [hqa]) Z Z Z Z Z hi2) ?_)
 refine xeg ?_
 refine VG (VO.alloc Z fun b6 => ?_)
 refine xdg ?_
 show VC _ _ _ [pt b6 (memC m) memT, slH 45 3 sa ((togM V.v (i) []).1).length sc (flat fdC ((togM V.v (i) []).1)), pt b1 (vwC V) 32] _
 refine xcc ?_
 refine xbx ?_
 refine VG (VO.callP (φ := SeenR V.na V.rows m.1) (fun Fr w hF hs hS => seen_spec Fr w (hx.of hF hs) hl m.1) Z ?_)
 rintro v hsn
 refine xcd ?_
 show VC _ _ _ [pt b6 (memC m) memT, slH 45 3 sa ((togM V.v (i) []).1).length sc (flat fdC ((togM V.v (i) []).1)), pt b1 (vwC V) 32] _
 rcases hsn with ⟨rfl, hno⟩ | ⟨k, x, nb, no, hxk, hna, rfl, hso⟩
 ·refine CS (CS ?_)
  refine CD (ts 0 11 .nil) yj yl ?_
  refine xeh ?_
  refine AG (AY 25 true Z Z ?_)
  refine xeh ?_
  refine VC.condT Z (CX ?_)
  have e : togM V.v (i + 1) [] = togM V.v i [] := by rw [hsucc]; unfold stepT; show (match seenM (V.rows.map AudR.n) m.1 with | some n => _ | none => _) = _; rw [hno]
  rw [e]
  exact ⟨(sa, sc, p), hah, sbZ, (pkZ [1, 1]).ent⟩
 have hxm := hV.each x (ME hxk)
 obtain ⟨rb, ro, hra, ra, rc⟩ := RwIn.rd (X := ⟨Tryz.prog, tab, tabOk, 94, Fr, w⟩) hx hxk
 rw [hna] at hra
 cases hra
 refine CS (CS ?_)
 refine CD (ts 0 11 .nil) yj yl ?_
 refine xeh ?_
 refine AG (AY 25 false Z Z ?_)
 refine xeh ?_
 refine AG (VA.load Z Z Z (rc _ _ 1 _ Z Z) ?_)
 refine xeh ?_
 refine VC.condNE (i := x.n.since) (j := m.2) Z (fun hs => CX ?_) (fun hs => CK ?_)
 ·have e : togM V.v (i + 1) [] = togM V.v i [] := by rw [hsucc]; unfold stepT; show (match seenM (V.rows.map AudR.n) m.1 with | some n => _ | none => _) = _; rw [hso]; exact if_neg hs
  rw [e]
  exact ⟨(sa, sc, p), hah, sbZ, (pkZ [1, 1]).ent⟩
 have e : togM V.v (i + 1) [] = ((togM V.v i []).1 ++ togO x.n (togM V.v i []).2 ++ togL x.n V.done, some x.n) := by rw [hsucc]; unfold stepT; show (match seenM (V.rows.map AudR.n) m.1 with | some n => _ | none => _) = _; rw [hso]; exact if_pos hs
 rw [e]
 refine CN (L' := [slH 45 3 sa ((togM V.v (i) []).1).length sc (flat fdC ((togM V.v (i) []).1)), pt b1 (vwC V) 32]) (pkZ [1, 1]).ent ?_
 have hll := hxm.ll
 obtain ⟨ah, hahe⟩ : ∃ ah, ah = (togM V.v i []).2 := ⟨_, rfl⟩
 obtain ⟨P, hP⟩ : ∃ P, P = (togM V.v i []).1 := ⟨_, rfl⟩
 rw [← hahe] at hah ⊢
 rw [← hP] at hlen ⊢
 have lO : (P ++ togO x.n ah).length ≤ 3000 := by
  rw [List.length_append]
  have : (togO x.n ah).length ≤ 1 := by unfold togO; split; exact ifF_len _ _; exact Nat.zero_le _
  omega
 refine CS ?_
 refine VC.meetS (σ := Option Addr × Nat) (fun s => [(1, pV b1), (3, .slice s.1 (P ++ togO x.n ah).length s.2), (7, .pointer (some ⟨nb, no + k * 9, none⟩)), (12, .slice V.ma V.ch.ms.length V.mc), (13, .int .i64 V.ch.ms.length), (14, .int .i64 i)]) (fun s => [slH 45 3 s.1 (P ++ togO x.n ah).length s.2 (flat fdC (P ++ togO x.n ah)), pt b1 (vwC V) 32]) (fun _ => True) ?_ ?_
 ·rcases hah with ⟨ha1, rfl⟩ | ⟨k2, y, ab, ao, hyk, hya, rfl, ha1⟩
  ·refine zft ?_
   rw [show P ++ togO x.n ah = P from by rw [ha1]; show P ++ [] = P; rw [List.append_nil]]
   exact xdy
  rw [hna] at hya
  cases hya
  have hym := hV.each y (ME hyk)
  have hyl := hym.ll
  obtain ⟨rb, ro, hra, ya, yc⟩ := RwIn.rd (X := ⟨Tryz.prog, tab, tabOk, 94, Fr, w⟩) hx hyk
  rw [hna] at hra
  cases hra
  refine xbz ?_
  refine xbm ?_
  refine CS ?_
  refine CD (ts 0 8 (.only 8 (.take 9 .nil))) yj yl ?_
  refine xei ?_
  refine AG (VA.load Z Z Z (rc _ _ 8 _ Z Z) ?_)
  refine xei ?_
  refine AG (VA.load Z Z Z (yc _ _ 8 _ Z Z) ?_)
  refine AG (AR (fun Fr w hF hs hS => part_spec Fr w (hxm.log.of hF hs) (hym.log.of hF hs) yf yf) Z Z (by (try refine Pd.st ?_);(repeat (first|exact Pd.nil|exact Pd.fnil|refine Pd.inner ?_|refine Pd.skip yl ?_|refine zf (zo 0 Z Z) ?_|refine zf (zo 1 Z Z) ?_|refine zf (zm 0 Z Z) ?_|refine zf (zm 1 Z Z) ?_|refine zf (RdL.blk (rc _ _ 8 _ Z Z) Z) ?_|refine zf (RdL.blk (yc _ _ 8 _ Z Z) Z) ?_|refine zf ((rc _ _ 8 _ Z Z)) ?_|refine zf ((yc _ _ 8 _ Z Z)) ?_|refine zc (zo 0 Z Z) ?_|refine zc (zo 1 Z Z) ?_|refine zc (zm 0 Z Z) ?_|refine zc (zm 1 Z Z) ?_|refine zc (RdL.blk (rc _ _ 8 _ Z Z) Z) ?_|refine zc (RdL.blk (yc _ _ 8 _ Z Z) Z) ?_|refine zc ((rc _ _ 8 _ Z Z)) ?_|refine zc ((yc _ _ 8 _ Z Z)) ?_))) ?_)
  refine xei ?_
  have hpl := partM_le x.n.log y.n.log
  refine xbz ?_
  refine VG (VD Z Z (rc _ _ 8 _ Z Z) ?_)
  refine xbz ?_
  refine CP (p := ((partM x.n.log y.n.log : Nat) : Int) < (x.n.log.length : Int)) Z (fun hp => ?_) (fun hp => CK ?_)
  ·skip
   refine xbz ?_
   refine xdf ?_
   refine xbz ?_
   refine VG (VI (LB (pv := [(0, .int .i64 5), (1, .int .i64 x.n.id), (2, .int .i64 (partM x.n.log y.n.log : Nat))]) (fdC (5, x.n.id, (partM x.n.log y.n.log : Nat))) Z Z Z Z Z) ?_)
   refine VG (VO.buildSlice (n := 1) (pv := [(0, .agg (fdC (5, x.n.id, (partM x.n.log y.n.log : Nat))).toArray)]) (fdC (5, x.n.id, (partM x.n.log y.n.log : Nat))) Z Z Z Z yk (fill_one Z Z Z) fun nb => ?_)
   refine VG (VO.append (m := 1) (news := fdC (5, x.n.id, (partM x.n.log y.n.log : Nat))) 1 Z Z Z Z Z Z Z (RdRow.pt 0 Z Z Z) Z (small_bytes (k := 100000) yf yk) yf fun a2 c2 hc2 => ?_)
   refine xdo ?_
   rw [show P ++ togO x.n ah = P ++ [((5, x.n.id, (partM x.n.log y.n.log : Nat)) : FindM)] from by rw [ha1]; show P ++ ifF _ _ = _; rw [ifF, if_pos yf], List.length_append, flat_append]
   exact ⟨(a2, c2), trivial, sbZ, (pkZ [0, 1]).ent⟩
  ·rw [show P ++ togO x.n ah = P from by rw [ha1]; show P ++ ifF _ _ = P; rw [ifF, if_neg yf, List.append_nil]]
   exact xdy
 rintro ⟨sa, sc⟩ -
 dsimp only
 refine CS ?_
 refine CD (ts 0 6 (.only 6 (.take 7 .nil))) yj yl ?_
 refine xei ?_
 refine AG (VA.load Z Z Z (rc _ _ 8 _ Z Z) ?_)
 refine xei ?_
 refine AG (AR (fun Fr w hF hs hS => part_spec Fr w (hxm.log.of hF hs) (hV.done.of hF hs) yf yf) Z Z (by (try refine Pd.st ?_);(repeat (first|exact Pd.nil|exact Pd.fnil|refine Pd.inner ?_|refine Pd.skip yl ?_|refine zf (zo 0 Z Z) ?_|refine zf (zo 1 Z Z) ?_|refine zf (zm 0 Z Z) ?_|refine zf (zm 1 Z Z) ?_|refine zf (RdL.blk (rc _ _ 8 _ Z Z) Z) ?_|refine zf ((rc _ _ 8 _ Z Z)) ?_|refine zc (zo 0 Z Z) ?_|refine zc (zo 1 Z Z) ?_|refine zc (zm 0 Z Z) ?_|refine zc (zm 1 Z Z) ?_|refine zc (RdL.blk (rc _ _ 8 _ Z Z) Z) ?_|refine zc ((rc _ _ 8 _ Z Z)) ?_))) ?_)
 refine xei ?_
 have hpl := partM_le x.n.log V.done
 refine CS ?_
 refine VC.meetS (σ := Option Addr × Nat) (fun s => [(1, pV b1), (3, .slice s.1 (P ++ togO x.n ah ++ togL x.n V.done).length s.2), (7, .pointer (some ⟨nb, no + k * 9, none⟩)), (12, .slice V.ma V.ch.ms.length V.mc), (13, .int .i64 V.ch.ms.length), (14, .int .i64 i)]) (fun s => [slH 45 3 s.1 (P ++ togO x.n ah ++ togL x.n V.done).length s.2 (flat fdC (P ++ togO x.n ah ++ togL x.n V.done)), pt b1 (vwC V) 32]) (fun _ => True) ?_ ?_
 ·refine xbz ?_
  refine VG (VD Z Z (rc _ _ 8 _ Z Z) ?_)
  refine xbz ?_
  by_cases h1 : partM x.n.log V.done < x.n.log.length
  rotate_left
  ·refine VG (VY 75 false Z (DF yf) ?_)
   refine zft ?_
   rw [show P ++ togO x.n ah ++ togL x.n V.done = P ++ togO x.n ah from by unfold togL; rw [ifF, if_neg (fun k => h1 k.1), List.append_nil]]
   exact xdy
  refine VG (VY 75 true Z (DT yf) ?_)
  refine xbz ?_
  refine CP (p := ((partM x.n.log V.done : Nat) : Int) < (V.done.length : Int)) Z (fun hp => ?_) (fun hp => CK ?_)
  ·skip
   refine xbz ?_
   refine xdf ?_
   refine xbz ?_
   refine VG (VI (LB (pv := [(0, .int .i64 6), (1, .int .i64 x.n.id), (2, .int .i64 (partM x.n.log V.done : Nat))]) (fdC (6, x.n.id, (partM x.n.log V.done : Nat))) Z Z Z Z Z) ?_)
   refine VG (VO.buildSlice (n := 1) (pv := [(0, .agg (fdC (6, x.n.id, (partM x.n.log V.done : Nat))).toArray)]) (fdC (6, x.n.id, (partM x.n.log V.done : Nat))) Z Z Z Z yk (fill_one Z Z Z) fun nb => ?_)
   refine VG (VO.append (m := 1) (news := fdC (6, x.n.id, (partM x.n.log V.done : Nat))) 1 Z Z Z Z Z Z Z (RdRow.pt 0 Z Z Z) Z (small_bytes (k := 100000) yf yk) yf fun a2 c2 hc2 => ?_)
   refine xdo ?_
   rw [show P ++ togO x.n ah ++ togL x.n V.done = P ++ togO x.n ah ++ [((6, x.n.id, (partM x.n.log V.done : Nat)) : FindM)] from by rw [togL, ifF, if_pos ⟨h1, by omega⟩], List.length_append, flat_append]
   exact ⟨(a2, c2), trivial, sbZ, (pkZ [0, 1]).ent⟩
  ·rw [show P ++ togO x.n ah ++ togL x.n V.done = P ++ togO x.n ah from by unfold togL; rw [ifF, if_neg (fun k => hp yf), List.append_nil]]
   exact xdy
 rintro ⟨sa, sc⟩ -
 refine xdo ?_
 exact ⟨(sa, sc, some ⟨nb, no + k * 9, none⟩), .inr ⟨k, x, nb, no, hxk, hna, Z, Z⟩, sbZ, ER⟩
end Au
namespace Au
open Go Vg T Api Kv Ch Lg Rd Conf Rep Sched Adm
attribute [local irreducible] VO VC VA
theorem rl_rdv {α : Type} {c : α → List Value} {n : Nat} {X : Cx} {L : List HP} {r : RL α} {a : Option Addr} {cap t : Nat} {xs : List α} (hc : ∀ x, (c x).length = n) (hok : r.Ok c n) (hv : r.v = .slice a xs.length cap) (hx : r.xs = xs) (i : Nat) (hL : L[i]? = some (r.h t)) : RdRow X L (.slice a xs.length cap) n xs.length (flat c xs) := by
 have h := RL.rd (X := X) hc hok i hL
 rw [hv, hx] at h
 exact h
theorem fm_len {α β : Type} {f : α → List β} {k : Nat} : ∀ {l : List α}, (∀ x ∈ l, (f x).length ≤ k) → (l.flatMap f).length ≤ l.length * k
 | [], _ => by simp
 | x :: l, h => by
  have h1 := h x (.head _)
  have h2 := fm_len (l := l) fun y hy => h y (.tail _ hy)
  rw [List.flatMap_cons, List.length_append, List.length_cons, Nat.add_mul, Nat.one_mul]
  omega
theorem chkA_len (v : AudV) : (chkA v).length ≤ 1 := ifF_len _ _
theorem chkB_len {c : ConfM} (hq : c.qs.length ≤ 1000) (v : AudV) {k : Nat} (hk : k ≤ 1000) : (chkB c v k).length ≤ 1004001 := by
 have h1 := chkA_len v
 have h2 := fm_len (f := aloneM c v.ch) (k := 1004) (l := v.nodes.take k) fun x _ => Nat.le_trans (aloneM_len _ _ _) yf
 have h3 : (v.nodes.take k).length ≤ 1000 := by rw [List.length_take]; omega
 have h4 : (v.nodes.take k).length * 1004 ≤ 1000 * 1004 := Nat.mul_le_mul_right _ h3
 unfold chkB
 rw [List.length_append]; omega
theorem chkC_len {c : ConfM} (hq : c.qs.length ≤ 1000) {v : AudV} (hn : v.nodes.length ≤ 1000) (hm : v.ch.ms.length ≤ 1000) : (chkC c v).length ≤ 1006001 := by
 have h1 := chkB_len hq v hn
 have h2 := togM_len v v.ch.ms.length
 unfold chkC
 rw [List.length_append]
 split
 ·omega
 ·simp only [List.length_nil]; omega
theorem chkD_len {c : ConfM} (hq : c.qs.length ≤ 1000) {v : AudV} (hn : v.nodes.length ≤ 1000) (hm : v.ch.ms.length ≤ 1000) {k : Nat} (hk : k ≤ 5000) : (chkD c v k).length ≤ 1011001 := by
 have h1 := chkC_len hq hn hm
 have h2 := fm_len (f := fun m : TriM => ifF (c.link < m.2.2) (9, m.1, m.2.1)) (k := 1) (l := v.mail.take k) fun x _ => ifF_len _ _
 have h3 : (v.mail.take k).length ≤ 5000 := by rw [List.length_take]; omega
 unfold chkD mailM
 rw [List.length_append]; omega
theorem fdC_one (f : FindM) : (fdC f).all Value.oneCell' = true := rfl
theorem check_spec {c : ConfM} {qa : Option Addr} {qc : Nat} (hq : IntsIn Fr w qa c.qs) (hqa : AdOk qa) (hqc : c.qs.length ≤ qc) {V : VwR} (hV : VwIn Fr w V) :
  Tri Tryz.prog 7 [.agg (c.cells qa qc).toArray, .agg (vwC V).toArray] Fr w [] (fun v L => ∃ a cap, v = .slice a (audM c V.v).length cap ∧ L = [slH 45 3 a (audM c V.v).length cap (flat fdC (audM c V.v))]) := by
 have hml := hV.msl; have hrl := hV.rl; have hdl := hV.dl; have hxl := hV.xl
 have hnl : V.v.nodes.length = V.rows.length := List.length_map ..
 refine TF 66 Tryz.func7 Z yj tabOk Z Z ?_
 refine CS (CG (VG (VB (vs := c.cells qa qc) Z fun b2 => VG (VB (vs := vwC V) Z fun b3 => VG (VN ?_)))))
 refine CS (CS (CG ?_))
 refine VG (VL 1 (c.cells qa qc) Z Z Z Z ?_)
 refine VG (VV (fun Fr w hF hs _ => Conf.check_spec Fr w c qa qc (ints_of hq hF hs) hqa hqc) Z ?_)
 refine xbz ?_
 refine VC.condNE (i := checkM c) (j := 0) Z (fun hs => ?_) (fun hs => CK ?_)
 ·have hf : ¬ c = fitM c := fun h => hs (by unfold checkM; rw [if_pos h])
  rw [show audM c V.v = [] from if_neg hf]
  refine xbz ?_
  exact CR (Ret.tmp 4 Z Z (Imp.slNil Imp.nil).ent ⟨none, 0, Z, Z⟩)
 have hf : c = fitM c := Classical.byContradiction fun h => by
  have := hs
  unfold checkM at this
  rw [if_neg h] at this
  exact absurd this yk
 have hql : c.qs.length ≤ 1000 := by
  have h2 : c.qs = qFit c.qs := congrArg ConfM.qs hf
  have := qFit_len c.qs
  rw [← h2] at this; omega
 rw [show audM c V.v = chkD c V.v V.v.mail.length from if_pos hf]
 refine xcb ?_
 refine CN (L' := slH 45 3 none 0 0 [] :: [pt b3 (vwC V) 32, pt b2 (c.cells qa qc) confT]) (Imp.slNil Imp.refl).ent ?_
 refine xcc ?_
 refine xbx ?_
 refine xej ?_
 refine VG (VV (fun Fr w hF hs hS => Ch.check_spec (c := V.ch) (a := V.ma) (cap := V.mc) Fr w (hV.ms.of hF hs) yf) Z ?_)
 refine xcd ?_
 refine CS ?_
 refine VC.meetS (σ := Option Addr × Nat) (fun s => [(2, pV b2), (3, pV b3), (5, .slice s.1 (chkA V.v).length s.2), (6, .bool (goodM V.v))]) (fun s => [slH 45 3 s.1 (chkA V.v).length s.2 (flat fdC (chkA V.v)), pt b3 (vwC V) 32, pt b2 (c.cells qa qc) confT]) (fun _ => True) ?_ ?_
 ·refine xbz ?_
  refine CC Z (fun hg => ?_) (fun hg => CK ?_)
  ·have hg2 : ¬ goodM V.v = true := fun h => by rw [show (chE V.ch == 0) = true from h] at hg; cases hg
   refine xbz ?_
   refine VG (VI (LB (pv := [(0, .int .i64 1)]) (fdC (1, 0, 0)) Z Z Z Z Z) ?_)
   refine VG (VO.buildSlice (n := 1) (pv := [(0, .agg (fdC (1, 0, 0)).toArray)]) (fdC (1, 0, 0)) Z Z Z Z yk (fill_one Z Z Z) fun nb => ?_)
   refine VG (VO.append (m := 1) (news := fdC (1, 0, 0)) 1 Z Z Z Z Z Z Z (RdRow.pt 0 Z Z Z) Z (small_bytes (k := 100000000) yf yk) yf fun a2 c2 hc2 => ?_)
   refine xdo ?_
   rw [show chkA V.v = [] ++ [((1, 0, 0) : FindM)] from by unfold chkA; rw [ifF, if_pos hg2]; rfl, List.length_append, flat_append]
   exact xek
  ·have hg2 : goodM V.v = true := by
    show (chE V.ch == 0) = true
    cases h : (chE V.ch == 0)
    ·rw [h] at hg; cases hg
    ·rfl
   rw [show chkA V.v = [] from by unfold chkA; rw [ifF, if_neg (by rw [hg2]; simp)]]
   exact xdw
 rintro ⟨sa, sc⟩ -
 dsimp only
 have lA := chkA_len V.v
 rw [show chkA V.v = chkB c V.v 0 from by unfold chkB; rw [List.take_zero]; simp]
 refine xbz ?_
 refine VC.loop (σ := Nat × Option Addr × Nat) (fun s => [(2, pV b2), (3, pV b3), (5, .slice s.2.1 (chkB c V.v (s.1)).length s.2.2), (6, .bool (goodM V.v)), (25, .slice V.na V.rows.length V.nc), (26, .int .i64 V.rows.length), (27, .int .i64 s.1)]) (fun s => [slH 45 3 s.2.1 (chkB c V.v (s.1)).length s.2.2 (flat fdC (chkB c V.v (s.1))), pt b3 (vwC V) 32, pt b2 (c.cells qa qc) confT]) (fun s => s.1 ≤ V.rows.length) (fun s => V.rows.length - s.1) (0, sa, sc)
  (Nat.zero_le _) sbZ ER ?_
 rintro ⟨i, sa, sc⟩ hi
 dsimp only at hi ⊢
 refine xdo ?_
 refine CP (p := (i : Int) < (V.rows.length : Int)) Z (fun h2 => CK ?_) (fun h2 => CX ?_)
 ·have hi2 : i < V.rows.length := by omega
  obtain ⟨x, hxk⟩ : ∃ x, V.rows[i]? = some x := ⟨_, GE hi2⟩
  obtain ⟨qb, qo, hqa', qra, qrc⟩ := RwIn.rd (X := ⟨Tryz.prog, tab, tabOk, 66, Fr, w⟩) hV.rows hxk
  have hxm := hV.each x (ME hxk)
  have hxn : V.v.nodes[i]? = some x.n := by show (V.rows.map AudR.n)[i]? = _; rw [List.getElem?_map, hxk]; rfl
  have lB := chkB_len hql V.v (k := i) yf
  have lal := aloneM_len c V.ch x.n
  refine CS ?_
  refine VC.meetS (σ := Option Addr × Nat) (fun s => [(2, pV b2), (3, pV b3), (5, .slice s.1 (chkB c V.v (i + 1)).length s.2), (6, .bool (goodM V.v)), (25, .slice V.na V.rows.length V.nc), (26, .int .i64 V.rows.length), (27, .int .i64 i)]) (fun s => [slH 45 3 s.1 (chkB c V.v (i + 1)).length s.2 (flat fdC (chkB c V.v (i + 1))), pt b3 (vwC V) 32, pt b2 (c.cells qa qc) confT]) (fun _ => True) ?_ ?_
  rotate_left
  ·rintro ⟨sa, sc⟩ -
   refine zff ?_
   exact xel
  refine VC.block (CS (CG ?_))
  refine VG (VI (light_idx i yak Z Z Z Z Z hi2) ?_)
  refine xeg ?_
  refine VG (VO.alloc Z fun b8 => ?_)
  refine VG (VT (vs := audC x) (cs' := audC x) 0 Z Z Z Z (NR _) Z Z Z (VG (VN ?_)))
  show VC _ _ _ [pt b8 (audC x) 61, slH 45 3 sa (chkB c V.v (i)).length sc (flat fdC (chkB c V.v (i))), pt b3 (vwC V) 32, pt b2 (c.cells qa qc) confT] _
  refine CG ?_
  refine VG (VL 3 (c.cells qa qc) Z Z Z Z ?_)
  refine VG (VL 2 (V.ch.cells V.ma V.mc) Z Z Z Z ?_)
  refine VG (VL 0 (audC x) Z Z Z Z ?_)
  refine VG (VK (Lc := []) (fun Fr w hF hs _ => alone_spec Fr w hf (hV.ms.of hF hs) hml (hxm.of hF hs)) Z Z ?_)
  rintro _ _ ⟨a1, c1, rfl, rfl⟩
  refine VO.opn 0 Z (HOpn.rl _ a1 c1 (aloneM c V.ch x.n) fdC_len) fun r ⟨hok, hv, hx⟩ => ?_
  refine VG (VO.append (m := (aloneM c V.ch x.n).length) (news := flat fdC (aloneM c V.ch x.n)) 2 Z Z Z Z Z Z Z (rl_rdv fdC_len hok hv hx 0 Z) (flat_all fdC_one _) (small_bytes (k := 100000000) yf yk) yf fun a2 c2 hc2 => ?_)
  refine xcd ?_
  rw [chkB_succ c V.v hxn, List.length_append, flat_append]
  exact ⟨(a2, c2), trivial, sbZ, (pkZ [0, 2, 2]).ent⟩
 obtain rfl : i = V.rows.length := by omega
 have lB := chkB_len hql V.v (k := V.rows.length) yf
 have lC := chkC_len hql (v := V.v) yf hml
 refine CS ?_
 refine VC.meetS (σ := Option Addr × Nat) (fun s => [(2, pV b2), (3, pV b3), (5, .slice s.1 (chkC c V.v).length s.2), (6, .bool (goodM V.v))]) (fun s => [slH 45 3 s.1 (chkC c V.v).length s.2 (flat fdC (chkC c V.v)), pt b3 (vwC V) 32, pt b2 (c.cells qa qc) confT]) (fun _ => True) ?_ ?_
 ·refine xbz ?_
  refine CC Z (fun hg => ?_) (fun hg => CK ?_)
  ·refine CG ?_
   refine VG (VL 1 (vwC V) Z Z Z Z ?_)
   refine VG (VK (Lc := []) (fun Fr w hF hs _ => together_spec Fr w (hV.of hF hs)) Z Z ?_)
   rintro _ _ ⟨a1, c1, rfl, rfl⟩
   have lT := togM_len V.v V.ch.ms.length
   refine VO.opn 0 Z (HOpn.rl _ a1 c1 (togM V.v V.ch.ms.length []).1 fdC_len) fun r ⟨hok, hv, hx⟩ => ?_
   refine VG (VO.append (m := (togM V.v V.ch.ms.length []).1.length) (news := flat fdC (togM V.v V.ch.ms.length []).1) 1 Z Z Z Z Z Z Z (rl_rdv fdC_len hok hv hx 0 Z) (flat_all fdC_one _) (small_bytes (k := 100000000) yf yk) yf fun a2 c2 hc2 => ?_)
   refine xcd ?_
   rw [show chkC c V.v = chkB c V.v V.rows.length ++ (togM V.v V.ch.ms.length []).1 from by unfold chkC; rw [hnl, if_pos hg]; rfl, List.length_append, flat_append]
   exact xek
  ·rw [show chkC c V.v = chkB c V.v V.rows.length from by unfold chkC; rw [hnl, if_neg (by rw [hg]; simp), List.append_nil]]
   exact xdy
 rintro ⟨sa, sc⟩ -
 dsimp only
 rw [show chkC c V.v = chkD c V.v 0 from by unfold chkD mailM; rw [List.take_zero]; simp [ifF]]
 refine xbz ?_
 refine VC.loop (σ := Nat × Option Addr × Nat) (fun s => [(2, pV b2), (3, pV b3), (5, .slice s.2.1 (chkD c V.v (s.1)).length s.2.2), (45, .slice V.xa V.mail.length V.xc), (46, .int .i64 V.mail.length), (47, .int .i64 s.1)]) (fun s => [slH 45 3 s.2.1 (chkD c V.v (s.1)).length s.2.2 (flat fdC (chkD c V.v (s.1))), pt b3 (vwC V) 32, pt b2 (c.cells qa qc) confT]) (fun s => s.1 ≤ V.mail.length) (fun s => V.mail.length - s.1) (0, sa, sc)
  (Nat.zero_le _) sbZ ER ?_
 rintro ⟨i, sa, sc⟩ hi
 dsimp only at hi ⊢
 refine xdo ?_
 refine CP (p := (i : Int) < (V.mail.length : Int)) Z (fun h2 => CK ?_) (fun h2 => CX ?_)
 rotate_left
 ·obtain rfl : i = V.mail.length := by omega
  refine xdo ?_
  exact CR (Ret.tmp 4 Z Z (IP 0 Z (Imp.nil)).ent ⟨sa, sc, Z, Z⟩)
 have hi2 : i < V.mail.length := by omega
 obtain ⟨m, hxk⟩ : ∃ m, V.mail[i]? = some m := ⟨_, GE hi2⟩
 obtain ⟨qb, qo, hqa', qra, qrc⟩ := RwIn.rd (X := ⟨Tryz.prog, tab, tabOk, 66, Fr, w⟩) hV.mail hxk
 have hsucc := chkD_succ c V.v (k := i) hxk
 have lD := chkD_len hql (v := V.v) yf hml (k := i) yf
 refine CS ?_
 refine VC.meetS (σ := Option Addr × Nat) (fun s => [(2, pV b2), (3, pV b3), (5, .slice s.1 (chkD c V.v (i + 1)).length s.2), (45, .slice V.xa V.mail.length V.xc), (46, .int .i64 V.mail.length), (47, .int .i64 i)]) (fun s => [slH 45 3 s.1 (chkD c V.v (i + 1)).length s.2 (flat fdC (chkD c V.v (i + 1))), pt b3 (vwC V) 32, pt b2 (c.cells qa qc) confT]) (fun _ => True) ?_ ?_
 rotate_left
 ·rintro ⟨sa, sc⟩ -
  refine zff ?_
  exact xel
 refine VC.block (CS (CG ?_))
 refine VG (VI (light_idx i yal Z Z Z Z Z hi2) ?_)
 refine xeg ?_
 refine VG (VO.alloc Z fun b10 => ?_)
 refine VG (VT (vs := triC m) (cs' := triC m) 0 Z Z Z Z (NR _) Z Z Z (VG (VN ?_)))
 show VC _ _ _ [pt b10 (triC m) 69, slH 45 3 sa (chkD c V.v (i)).length sc (flat fdC (chkD c V.v (i))), pt b3 (vwC V) 32, pt b2 (c.cells qa qc) confT] _
 refine xcc ?_
 refine VG (VI (light_idxA 2 Z Z Z Z Z Z yf) ?_)
 refine xbx ?_
 refine VG (VO.ld 3 Z Z Z Z ?_)
 refine xbx ?_
 refine CP (p := c.link < m.2.2) Z (fun hp => ?_) (fun hp => CK ?_)
 ·refine CG ?_
  refine VG (VI (light_idxA 0 Z Z Z Z Z Z yf) ?_)
  refine xbx ?_
  refine VG (VI (light_idxA 1 Z Z Z Z Z Z yf) ?_)
  refine xbx ?_
  refine VG (VI (LB (pv := [(0, .int .i64 9), (1, .int .i64 m.1), (2, .int .i64 m.2.1)]) (fdC (9, m.1, m.2.1)) Z Z Z Z Z) ?_)
  refine VG (VO.buildSlice (n := 1) (pv := [(0, .agg (fdC (9, m.1, m.2.1)).toArray)]) (fdC (9, m.1, m.2.1)) Z Z Z Z yk (fill_one Z Z Z) fun nb => ?_)
  refine VG (VO.append (m := 1) (news := fdC (9, m.1, m.2.1)) 2 Z Z Z Z Z Z Z (RdRow.pt 0 Z Z Z) Z (small_bytes (k := 100000000) yf yk) yf fun a2 c2 hc2 => ?_)
  refine xdo ?_
  rw [show chkD c V.v (i + 1) = chkD c V.v (i) ++ [((9, m.1, m.2.1) : FindM)] from by rw [hsucc, ifF, if_pos hp], List.length_append, flat_append]
  exact ⟨(a2, c2), trivial, sbZ, (pkZ [0, 2, 2]).ent⟩
 ·rw [hsucc, ifF, if_neg hp, List.append_nil]
  exact ⟨(sa, sc), trivial, sbZ, (pkZ [1, 1, 1]).ent⟩
end Au
namespace Au
open Go Vg T Api Kv Ch Lg Rd Conf Rep Sched Adm
attribute [local irreducible] VO VC VA
def ahV (x : Option AudR) : Value := match x with | none => .slice none 0 0 | some x => .slice x.la x.n.log.length x.lc
def ahL (x : Option AudR) : List EntryM := match x with | none => [] | some x => x.n.log
def ahA (x : Option AudR) : Option Addr := match x with | none => none | some x => x.la
def ahC (x : Option AudR) : Nat := match x with | none => 0 | some x => x.lc
theorem ahV_eq (x : Option AudR) : ahV x = .slice (ahA x) (ahL x).length (ahC x) := by cases x <;> rfl
def AhIn (V : VwR) (x : Option AudR) : Prop := ∀ y, x = some y → y ∈ V.rows
theorem AhIn.row {Fr : Nat → Prop} {w : World} {V : VwR} (hV : VwIn Fr w V) {x : Option AudR} (h : AhIn V x) : RwIn entC 7 Fr w (ahA x) (ahL x) ∧ (ahL x).length ≤ 5000 := by
 cases x with
 | none => exact ⟨RwIn.nil, Nat.zero_le _⟩
 | some y => exact ⟨(hV.each y (h y rfl)).log, (hV.each y (h y rfl)).ll⟩
theorem tup_inj {a b : List Value} {x y : Bool} (h : Value.tuple #[.agg a.toArray, .bool x] = .tuple #[.agg b.toArray, .bool y]) : a = b ∧ x = y := by simpa using h
theorem togO_ah (n : AudN) (x : Option AudR) : togO n (x.map AudR.n) = if x.isSome = true ∧ 0 ≤ orderM n.log (ahL x) then [((5, n.id, orderM n.log (ahL x)) : FindM)] else [] := by
 cases x with
 | none => rw [if_neg (by rintro ⟨h, _⟩; cases h)]; rfl
 | some y =>
  obtain ⟨h1, h2⟩ := order_is n.log y.n.log
  show ifF _ _ = _
  unfold ifF
  show _ = if true = true ∧ 0 ≤ orderM n.log y.n.log then [((5, n.id, orderM n.log y.n.log) : FindM)] else []
  by_cases h : partM n.log y.n.log < n.log.length
  ·rw [if_pos h, if_pos ⟨rfl, h1.2 h⟩, h2 h]
  ·rw [if_neg h, if_neg fun k => h (h1.1 k.2)]
theorem rcheck_spec {c : ConfM} {qa : Option Addr} {qc : Nat} (hq : IntsIn Fr w qa c.qs) (hql : c.qs.length ≤ 1000) {V : VwR} (hV : VwIn Fr w V) :
  Tri Tryz.prog 8 [.agg (c.cells qa qc).toArray, .agg (vwC V).toArray] Fr w [] (fun v L => ∃ a cap, v = .slice a (audM c V.v).length cap ∧ L = [slH 44 3 a (audM c V.v).length cap (flat fdC (audM c V.v))]) := by
 have hml := hV.msl; have hrl := hV.rl; have hdl := hV.dl; have hxl := hV.xl
 have hnl : V.v.nodes.length = V.rows.length := List.length_map ..
 refine TF 150 Tryz.func8 Z yj tabOk Z Z ?_
 refine CS (CG (VG (VB (vs := c.cells qa qc) Z fun b2 => VG (VB (vs := vwC V) Z fun b3 => VG (VN ?_)))))
 refine xcb ?_
 refine CN (L' := slH 44 3 none 0 0 [] :: [pt b3 (vwC V) 41, pt b2 (c.cells qa qc) confT]) (Imp.slNil Imp.refl).ent ?_
 refine CS (CS (CG ?_))
 refine VG (VL 2 (c.cells qa qc) Z Z Z Z ?_)
 refine VG (VV (fun Fr w hF hs _ => Conf.rcheck_spec Fr w c qa qc (ints_of hq hF hs) hql) Z ?_)
 refine xbz ?_
 refine VC.condNE (i := checkM c) (j := 0) Z (fun hs => ?_) (fun hs => CK ?_)
 ·have hf : ¬ c = fitM c := fun h => hs (by unfold checkM; rw [if_pos h])
  rw [show audM c V.v = [] from if_neg hf]
  refine xbz ?_
  exact CR (Ret.tmp 4 Z Z (Imp.slNil Imp.nil).ent ⟨none, 0, Z, Z⟩)
 have hf : c = fitM c := Classical.byContradiction fun h => by
  have := hs
  unfold checkM at this
  rw [if_neg h] at this
  exact absurd this yk
 rw [show audM c V.v = chkD c V.v V.v.mail.length from if_pos hf]
 refine xcc ?_
 refine xbx ?_
 refine xej ?_
 refine VG (VV (fun Fr w hF hs hS => Nd.rchk_spec (c := V.ch) (a := V.ma) (cap := V.mc) Fr w (hV.ms.of hF hs) yf) Z ?_)
 refine xcd ?_
 refine CS ?_
 refine VC.meetS (σ := Option Addr × Nat) (fun s => [(2, pV b2), (3, pV b3), (5, .slice s.1 (chkA V.v).length s.2), (6, .bool (goodM V.v))]) (fun s => [slH 44 3 s.1 (chkA V.v).length s.2 (flat fdC (chkA V.v)), pt b3 (vwC V) 41, pt b2 (c.cells qa qc) confT]) (fun _ => True) ?_ ?_
 ·refine xbz ?_
  refine CC Z (fun hg => ?_) (fun hg => CK ?_)
  ·have hg2 : ¬ goodM V.v = true := fun h => by rw [show (chE V.ch == 0) = true from h] at hg; cases hg
   refine xbz ?_
   refine VG (VI (LB (pv := [(0, .int .i64 1), (1, .int .i64 0), (2, .int .i64 0)]) (fdC (1, 0, 0)) Z Z Z Z Z) ?_)
   refine VG (VO.buildSlice (n := 1) (pv := [(0, .agg (fdC (1, 0, 0)).toArray)]) (fdC (1, 0, 0)) Z Z Z Z yk (fill_one Z Z Z) fun nb => ?_)
   refine VG (VO.append (m := 1) (news := fdC (1, 0, 0)) 1 Z Z Z Z Z Z Z (RdRow.pt 0 Z Z Z) Z (small_bytes (k := 100000000) yf yk) yf fun a2 c2 hc2 => ?_)
   refine xdo ?_
   rw [show chkA V.v = [] ++ [((1, 0, 0) : FindM)] from by unfold chkA; rw [ifF, if_pos hg2]; rfl, List.length_append, flat_append]
   exact xek
  ·have hg2 : goodM V.v = true := by
    show (chE V.ch == 0) = true
    cases h : (chE V.ch == 0)
    ·rw [h] at hg; cases hg
    ·rfl
   rw [show chkA V.v = [] from by unfold chkA; rw [ifF, if_neg (by rw [hg2]; simp)]]
   exact xdw
 rintro ⟨sa, sc⟩ -
 dsimp only
 have lA := chkA_len V.v
 rw [show chkA V.v = chkB c V.v 0 from by unfold chkB; rw [List.take_zero]; simp]
 refine xbz ?_
 refine VC.loop (σ := Nat × Option Addr × Nat) (fun s => [(2, pV b2), (3, pV b3), (5, .slice s.2.1 (chkB c V.v (s.1)).length s.2.2), (6, .bool (goodM V.v)), (7, .int .i64 s.1)]) (fun s => [slH 44 3 s.2.1 (chkB c V.v (s.1)).length s.2.2 (flat fdC (chkB c V.v (s.1))), pt b3 (vwC V) 41, pt b2 (c.cells qa qc) confT]) (fun s => s.1 ≤ V.rows.length) (fun s => V.rows.length - s.1) (0, sa, sc)
  (Nat.zero_le _) sbZ ER ?_
 rintro ⟨i, sa, sc⟩ hi
 dsimp only at hi ⊢
 refine xbz ?_
 refine CP (p := (i : Int) < (V.rows.length : Int)) Z (fun h2 => CK ?_) (fun h2 => CX ?_)
 ·have hi2 : i < V.rows.length := by omega
  obtain ⟨x, hxk⟩ : ∃ x, V.rows[i]? = some x := ⟨_, GE hi2⟩
  obtain ⟨qb, qo, hqa', qra, qrc⟩ := RwIn.rd (X := ⟨Tryz.prog, tab, tabOk, 150, Fr, w⟩) hV.rows hxk
  have hxm := hV.each x (ME hxk)
  have hxn : V.v.nodes[i]? = some x.n := by show (V.rows.map AudR.n)[i]? = _; rw [List.getElem?_map, hxk]; rfl
  have lB := chkB_len hql V.v (k := i) yf
  have lal := aloneM_len c V.ch x.n
  refine CS ?_
  refine VC.meetS (σ := Option Addr × Nat) (fun s => [(2, pV b2), (3, pV b3), (5, .slice s.1 (chkB c V.v (i + 1)).length s.2), (6, .bool (goodM V.v)), (7, .int .i64 i)]) (fun s => [slH 44 3 s.1 (chkB c V.v (i + 1)).length s.2 (flat fdC (chkB c V.v (i + 1))), pt b3 (vwC V) 41, pt b2 (c.cells qa qc) confT]) (fun _ => True) ?_ ?_
  rotate_left
  ·rintro ⟨sa, sc⟩ -
   refine zff ?_
   exact xel
  refine VC.block ?_
  refine CD (ts 0 9 (.only 9 (.only 10 (.take 11 .nil)))) yj yl ?_
  refine AG (VA.ldA 2 (c.cells qa qc) Z Z Z Z Z ?_)
  refine xei ?_
  refine AG (VA.ldA 1 (V.ch.cells V.ma V.mc) Z Z Z Z Z ?_)
  refine xei ?_
  refine AG (AI Z (light_idx i yak Z Z Z Z Z hi2) ?_)
  refine AG (VA.load Z Z Z (qra _ _ Z Z) ?_)
  refine AG (AO (OC (Lc := []) rfl (.refl _) (fun Fr w hF hs _ => own_spec Fr w hf (hV.ms.of hF hs) hml (hxm.of hF hs))) rfl (fun v L' h => by obtain ⟨L1, ⟨a1, c1, rfl, rfl⟩, rfl⟩ := h; exact yam) ?_)
  rintro v L' ⟨L1, ⟨a1, c1, rfl, rfl⟩, rfl⟩
  refine VA.exs _ _ (HOpn.st 0 Z (HOpn.rl _ a1 c1 (aloneM c V.ch x.n) fdC_len)) ?_
  rintro r ⟨hok, hv, hx⟩
  refine AG (AO (OpT.append (m := (aloneM c V.ch x.n).length) (news := flat fdC (aloneM c V.ch x.n)) 1 rfl rfl rfl rfl rfl rfl rfl (rl_rdv fdC_len hok hv hx 0 rfl) (flat_all fdC_one _) (small_bytes (k := 100000000) yf yk) yf) rfl (fun v L' h => by obtain ⟨a2, c2, rfl, hc2, rfl⟩ := h; exact yam) ?_)
  rintro v L' ⟨a2, c2, rfl, hc2, rfl⟩
  refine xdp ?_
  rw [chkB_succ c V.v hxn, List.length_append, flat_append]
  exact xek
 obtain rfl : i = V.rows.length := by omega
 have lB := chkB_len hql V.v (k := V.rows.length) yf
 have lC := chkC_len hql (v := V.v) yf hml
 obtain ⟨P0, hP0⟩ : ∃ P0, P0 = chkB c V.v V.rows.length := ⟨_, rfl⟩
 rw [← hP0]
 rw [← hP0] at lB
 rw [show P0 = P0 ++ (togM V.v (0) []).1 from (List.append_nil P0).symm]
 refine xcb ?_
 refine xcb ?_
 refine CS (CS (CG (VG (VN ?_))))
 refine VC.block ?_
 refine VC.loop (σ := Nat × Option AudR × Option Addr × Nat) (fun s => [(2, pV b2), (3, pV b3), (5, .slice s.2.2.1 (P0 ++ (togM V.v (s.1) []).1).length s.2.2.2), (6, .bool (goodM V.v)), (8, ahV s.2.1), (9, .bool s.2.1.isSome), (10, .int .i64 s.1)]) (fun s => [slH 44 3 s.2.2.1 (P0 ++ (togM V.v (s.1) []).1).length s.2.2.2 (flat fdC (P0 ++ (togM V.v (s.1) []).1)), pt b3 (vwC V) 41, pt b2 (c.cells qa qc) confT]) (fun s => s.1 ≤ V.ch.ms.length ∧ (goodM V.v = true ∨ s.1 = 0) ∧ AhIn V s.2.1 ∧ (togM V.v s.1 []).2 = s.2.1.map AudR.n) (fun s => V.ch.ms.length - s.1) (0, none, sa, sc)
  ⟨Nat.zero_le _, .inr rfl, fun y h => yab, rfl⟩ sbZ ER ?_
 rintro ⟨i, ah, sa, sc⟩ ⟨hi, hgi, hah, hto⟩
 dsimp only at hi hgi hah hto ⊢
 refine CS (CS ?_)
 refine VC.meetS (σ := Bool) (fun b => [(2, pV b2), (3, pV b3), (5, .slice sa (P0 ++ (togM V.v (i) []).1).length sc), (6, .bool (goodM V.v)), (8, ahV ah), (9, .bool ah.isSome), (10, .int .i64 i), (54, .bool b)]) (fun _ => [slH 44 3 sa (P0 ++ (togM V.v (i) []).1).length sc (flat fdC (P0 ++ (togM V.v (i) []).1)), pt b3 (vwC V) 41, pt b2 (c.cells qa qc) confT]) (fun b => b = true ↔ i < V.ch.ms.length ∧ goodM V.v = true) ?_ ?_
 ·refine CG ?_
  refine xbz ?_
  by_cases g1 : i < V.ch.ms.length
  ·refine VG (VY 52 true Z (DT yf) ?_)
   refine xbz ?_
   exact ⟨goodM V.v, ⟨fun h => ⟨g1, h⟩, fun h => h.2⟩, sbZ, ER⟩
  ·refine VG (VY 52 false Z (DF yf) ?_)
   refine xbz ?_
   exact ⟨false, ⟨fun h => yab, fun h => absurd h.1 g1⟩, sbZ, ER⟩
 rintro b hb
 refine CC Z (fun hbt => CK ?_) (fun hbf => CX ?_)
 rotate_left
 ·have hC : chkC c V.v = P0 ++ (togM V.v (i) []).1 := by
   unfold chkC
   rw [hnl, ← hP0]
   by_cases hg : goodM V.v = true
   ·have : i = V.ch.ms.length := by
     have := fun h => hb.2 ⟨h, hg⟩
     by_cases g1 : i < V.ch.ms.length
     ·rw [this g1] at hbf; cases hbf
     ·omega
    rw [if_pos hg, this]; rfl
   ·rcases hgi with h | h
    ·exact absurd h hg
    ·rw [if_neg hg, h]; rfl
  rw [← hC]
  rw [show chkC c V.v = chkD c V.v 0 from by unfold chkD mailM; rw [List.take_zero]; simp [ifF]]
  refine xdo ?_
  refine VC.loop (σ := Nat × Option Addr × Nat) (fun s => [(2, pV b2), (3, pV b3), (5, .slice s.2.1 (chkD c V.v (s.1)).length s.2.2), (14, .int .i64 s.1)]) (fun s => [slH 44 3 s.2.1 (chkD c V.v (s.1)).length s.2.2 (flat fdC (chkD c V.v (s.1))), pt b3 (vwC V) 41, pt b2 (c.cells qa qc) confT]) (fun s => s.1 ≤ V.mail.length) (fun s => V.mail.length - s.1) (0, sa, sc)
   (Nat.zero_le _) sbZ ER ?_
  rintro ⟨i, sa, sc⟩ hi
  dsimp only at hi ⊢
  refine xbz ?_
  refine CP (p := (i : Int) < (V.mail.length : Int)) Z (fun h2 => CK ?_) (fun h2 => CX ?_)
  rotate_left
  ·obtain rfl : i = V.mail.length := by omega
   refine xdo ?_
   exact CR (Ret.tmp 4 Z Z (IP 0 Z (Imp.nil)).ent ⟨sa, sc, Z, Z⟩)
  have hi2 : i < V.mail.length := by omega
  obtain ⟨m, hxk⟩ : ∃ m, V.mail[i]? = some m := ⟨_, GE hi2⟩
  obtain ⟨qb, qo, hqa', qra, qrc⟩ := RwIn.rd (X := ⟨Tryz.prog, tab, tabOk, 150, Fr, w⟩) hV.mail hxk
  have hsucc := chkD_succ c V.v (k := i) hxk
  have lD := chkD_len hql (v := V.v) yf hml (k := i) yf
  refine CS ?_
  refine VC.meetS (σ := Option Addr × Nat) (fun s => [(2, pV b2), (3, pV b3), (5, .slice s.1 (chkD c V.v (i + 1)).length s.2), (14, .int .i64 i)]) (fun s => [slH 44 3 s.1 (chkD c V.v (i + 1)).length s.2 (flat fdC (chkD c V.v (i + 1))), pt b3 (vwC V) 41, pt b2 (c.cells qa qc) confT]) (fun _ => True) ?_ ?_
  rotate_left
  ·rintro ⟨sa, sc⟩ -
   refine zff ?_
   exact xel
  refine VC.block (CS ?_)
  refine xdh ?_
  refine xeh ?_
  refine xem ?_
  refine AG (AI Z (light_idxA 2 Z Z Z Z Z Z yf) ?_)
  refine AG (VA.load Z Z Z (qrc _ _ 2 _ Z Z) ?_)
  refine xeh ?_
  refine CP (p := c.link < m.2.2) Z (fun hp => ?_) (fun hp => CK ?_)
  ·refine CD (ts 0 14 (.only 14 (.only 15 (.take 16 .nil)))) yj yl ?_
   refine xeh ?_
   refine xem ?_
   refine AG (AI Z (light_idxA 0 Z Z Z Z Z Z yf) ?_)
   refine AG (VA.load Z Z Z (qrc _ _ 0 _ Z Z) ?_)
   refine xeh ?_
   refine xem ?_
   refine AG (AI Z (light_idxA 1 Z Z Z Z Z Z yf) ?_)
   refine AG (VA.load Z Z Z (qrc _ _ 1 _ Z Z) ?_)
   refine AG (AI Z (LB (pv := [(0, .int .i64 9), (1, .int .i64 m.1), (2, .int .i64 m.2.1)]) (fdC (9, m.1, m.2.1)) Z Z Z Z Z) ?_)
   refine AG (AO (OpT.buildSlice (n := 1) (pv := [(0, .agg (fdC (9, m.1, m.2.1)).toArray)]) (cells := fdC (9, m.1, m.2.1)) rfl rfl rfl rfl yk (fill_one rfl rfl rfl)) rfl (fun v L' h => by obtain ⟨nb, rfl, rfl⟩ := h; exact yan) ?_)
   rintro v L' ⟨nb, rfl, rfl⟩
   refine AG (AO (OpT.append (m := 1) (news := fdC (9, m.1, m.2.1)) 1 rfl rfl rfl rfl rfl rfl rfl (RdRow.pt 0 rfl rfl rfl) rfl (small_bytes (k := 100000000) yf yk) yf) rfl (fun v L' h => by obtain ⟨a2, c2, rfl, hc2, rfl⟩ := h; exact yan) ?_)
   rintro v L' ⟨a2, c2, rfl, hc2, rfl⟩
   refine xdp ?_
   rw [show chkD c V.v (i + 1) = chkD c V.v (i) ++ [((9, m.1, m.2.1) : FindM)] from by rw [hsucc, ifF, if_pos hp], List.length_append, flat_append]
   exact xek
  ·rw [hsucc, ifF, if_neg hp, List.append_nil]
   exact xdy
 obtain ⟨hi2, hgd⟩ := hb.1 hbt
 obtain ⟨m, hm⟩ : ∃ m, V.ch.ms[i]? = some m := ⟨_, GE hi2⟩
 obtain ⟨pb, po, hpa, pra, prc⟩ := RwIn.rd (X := ⟨Tryz.prog, tab, tabOk, 150, Fr, w⟩) hV.ms hm
 have hsucc := togM_succ V.v hm []
 have hlen := togM_len V.v i
 have hlen2 := togM_len V.v (i + 1)
 refine CS ?_
 refine VC.meetS (σ := Option AudR × Option Addr × Nat) (fun s => [(2, pV b2), (3, pV b3), (5, .slice s.2.1 (P0 ++ (togM V.v (i + 1) []).1).length s.2.2), (6, .bool (goodM V.v)), (8, ahV s.1), (9, .bool s.1.isSome), (10, .int .i64 i)]) (fun s => [slH 44 3 s.2.1 (P0 ++ (togM V.v (i + 1) []).1).length s.2.2 (flat fdC (P0 ++ (togM V.v (i + 1) []).1)), pt b3 (vwC V) 41, pt b2 (c.cells qa qc) confT]) (fun s => AhIn V s.1 ∧ (togM V.v (i + 1) []).2 = s.1.map AudR.n) ?_ ?_
 rotate_left
 ·rintro ⟨ah, sa, sc⟩ ⟨hah, hto⟩
  refine zff ?_
  exact ⟨(i + 1, ah, sa, sc), ⟨hi2, .inl hgd, hah, hto⟩, by dsimp only; omega, sbZ, ER⟩
 refine VC.block (CS ?_)
 refine VC.meetS (σ := List Value × Bool × Nat) (fun s => [(2, pV b2), (3, pV b3), (5, .slice sa (P0 ++ (togM V.v (i) []).1).length sc), (6, .bool (goodM V.v)), (8, ahV ah), (9, .bool ah.isSome), (10, .int .i64 i), (11, .pointer (some ⟨s.2.2, 0, none⟩)), (12, .bool s.2.1)]) (fun s => pt s.2.2 s.1 71 :: [slH 44 3 sa (P0 ++ (togM V.v (i) []).1).length sc (flat fdC (P0 ++ (togM V.v (i) []).1)), pt b3 (vwC V) 41, pt b2 (c.cells qa qc) confT]) (fun s => RseenR V.rows m (.tuple #[.agg s.1.toArray, .bool s.2.1])) ?_ ?_
 ·refine CD (ts 0 7 (.two 7 11 (ts 8 3 (.only 11 (.only 12 (.take 13 .nil)))) (.only 7 (ts 8 3 (.only 12 (.take 13 .nil)))))) yj yl ?_
  refine AG (VA.ldA 1 (vwC V) Z Z Z Z Z ?_)
  refine xei ?_
  refine AG (AI Z (light_idx i (by show some (Value.slice V.ma V.ch.ms.length V.mc) = _; rw [hpa]) Z Z Z Z Z hi2) ?_)
  refine AG (VA.load Z Z Z (pra _ _ Z Z) ?_)
  refine AG (VA.two Z Z Z Z Z (OpT.callP (φ := RseenR V.rows m) (fun Fr w hF hs hS => rseen_spec Fr w (hV.of hF hs) m) Z) Z Z Z (OpT.alloc Z) ?_ ?_ ?_ ?_)
  ·rintro v L' ⟨hsn, rfl⟩
   exact (by (try refine Pd.st ?_);(repeat (first|exact Pd.nil|exact Pd.fnil|refine Pd.inner ?_|refine Pd.skip yl ?_|refine zf (zo 0 Z Z) ?_|refine zf (zo 1 Z Z) ?_|refine zf (zo 2 Z Z) ?_|refine zf (zm 0 Z Z) ?_|refine zf (zm 1 Z Z) ?_|refine zf (zm 2 Z Z) ?_|refine zf (RdL.blk (pra _ _ Z Z) Z) ?_|refine zf ((pra _ _ Z Z)) ?_|refine zc (zo 0 Z Z) ?_|refine zc (zo 1 Z Z) ?_|refine zc (zo 2 Z Z) ?_|refine zc (zm 0 Z Z) ?_|refine zc (zm 1 Z Z) ?_|refine zc (zm 2 Z Z) ?_|refine zc (RdL.blk (pra _ _ Z Z) Z) ?_|refine zc ((pra _ _ Z Z)) ?_)))
  ·rintro v L' ⟨b11, rfl, rfl⟩
   exact yao
  ·rintro v L' ⟨hsn, rfl⟩
   rcases hsn with ⟨rfl, hno⟩ | ⟨k, x, hxk, rfl, hso⟩
   ·skip
    refine xei ?_
    refine xen ?_
    rintro v L' ⟨b11, rfl, rfl⟩
    refine AG (AT (vs := audZ) (cs' := audZ) 0 Z Z Z Z Z (NR _) Z Z Z yao ?_)
    refine xdm ?_
    exact ⟨(audZ, false, b11), .inl ⟨rfl, hno⟩, sbZ, ER⟩
   ·skip
    refine xei ?_
    refine xen ?_
    rintro v L' ⟨b11, rfl, rfl⟩
    refine xeo ?_
    refine xdm ?_
    exact xep
  ·rintro v L' ⟨b11, rfl, rfl⟩
   refine AG (VA.callP (φ := RseenR V.rows m) (fun Fr w hF hs hS => rseen_spec Fr w (hV.of hF hs) m) Z Z yao ?_)
   rintro v hsn
   rcases hsn with ⟨rfl, hno⟩ | ⟨k, x, hxk, rfl, hso⟩
   ·skip
    refine xei ?_
    refine AG (AT (vs := audZ) (cs' := audZ) 0 Z Z Z Z Z (NR _) Z Z Z yao ?_)
    refine xdm ?_
    exact ⟨(audZ, false, b11), .inl ⟨rfl, hno⟩, sbZ, ER⟩
   ·skip
    refine xei ?_
    refine xeo ?_
    refine xdm ?_
    exact xep
 rintro ⟨cs, bl, b11⟩ hsn
 dsimp only at hsn ⊢
 rcases hsn with ⟨htup, hno⟩ | ⟨k, x, hxk, htup, hso⟩
 ·obtain ⟨rfl, rfl⟩ := tup_inj htup
  refine xdo ?_
  refine VC.condT Z (CX ?_)
  have e : togM V.v (i + 1) [] = togM V.v i [] := by rw [hsucc]; unfold stepT; show (match seenM (V.rows.map AudR.n) m.1 with | some n => _ | none => _) = _; rw [hno]
  rw [e]
  exact ⟨(ah, sa, sc), ⟨hah, hto⟩, sbZ, (pkZ [1, 1, 1]).ent⟩
 obtain ⟨rfl, rfl⟩ := tup_inj htup
 refine xdo ?_
 refine CC Z (fun hs => CX ?_) (fun hs => CK ?_)
 ·have hne : ¬ x.n.since = m.2 := fun h => by rw [h] at hs; simp at hs
  have e : togM V.v (i + 1) [] = togM V.v i [] := by rw [hsucc]; unfold stepT; show (match seenM (V.rows.map AudR.n) m.1 with | some n => _ | none => _) = _; rw [hso]; exact if_neg hne
  rw [e]
  exact ⟨(ah, sa, sc), ⟨hah, hto⟩, sbZ, (pkZ [1, 1, 1]).ent⟩
 have heq : x.n.since = m.2 := by
  cases h : (x.n.since == m.2)
  ·rw [h] at hs; cases hs
  ·exact of_decide_eq_true h
 have e : togM V.v (i + 1) [] = ((togM V.v i []).1 ++ togO x.n (togM V.v i []).2 ++ togL x.n V.done, some x.n) := by rw [hsucc]; unfold stepT; show (match seenM (V.rows.map AudR.n) m.1 with | some n => _ | none => _) = _; rw [hso]; exact if_pos heq
 obtain ⟨Q, hQ⟩ : ∃ Q, Q = P0 ++ (togM V.v (i) []).1 := ⟨_, rfl⟩
 have e2 : P0 ++ (togM V.v (i + 1) []).1 = Q ++ togO x.n (ah.map AudR.n) ++ togL x.n V.done := by rw [e, hQ, hto]; simp only [List.append_assoc]
 have hQl : Q.length ≤ 1100000 := by rw [hQ, List.length_append]; omega
 rw [← hQ, e2, ahV_eq ah]
 have hxm := hV.each x (ME hxk)
 have hll := hxm.ll
 obtain ⟨hahr, hahl⟩ := AhIn.row hV hah
 have lO : (togO x.n (ah.map AudR.n)).length ≤ 1 := by rw [togO_ah]; split <;> simp
 have lL : (togL x.n V.done).length ≤ 1 := ifF_len _ _
 have lQO : (Q ++ togO x.n (ah.map AudR.n)).length ≤ 1200000 := by rw [List.length_append]; omega
 refine xcc ?_
 refine xbz ?_
 refine VG (VV (fun Fr w hF hs hS => apart_spec Fr w (hxm.log.of hF hs) (hahr.of hF hs) yf yf) Z ?_)
 refine xcd ?_
 refine CS ?_
 refine VC.meetS (σ := Unit) (fun _ => [(2, pV b2), (3, pV b3), (5, .slice sa (Q).length sc), (6, .bool (goodM V.v)), (8, .slice (ahA ah) (ahL ah).length (ahC ah)), (9, .bool ah.isSome), (10, .int .i64 i), (11, pV b11), (13, .int .i64 (orderM x.n.log (ahL ah)))]) (fun _ => [pt b11 (audC x) 71, slH 44 3 sa (Q).length sc (flat fdC (Q)), pt b3 (vwC V) 41, pt b2 (c.cells qa qc) confT]) (fun _ => True) ?_ ?_
 ·refine xbz ?_
  by_cases g1 : apartM x.n.log (ahL ah) < 0
  ·refine VG (VY 76 true Z (DT g1) ?_)
   refine xbz ?_
   refine CP (p := ((ahL ah).length : Int) < (x.n.log.length : Int)) Z (fun g2 => ?_) (fun g2 => CK ?_)
   ·refine xbz ?_
    rw [show orderM x.n.log (ahL ah) = ((ahL ah).length : Int) from by unfold orderM; rw [if_pos ⟨g1, by omega⟩]]
    exact ⟨(), trivial, sbZ, ER⟩
   ·rw [show orderM x.n.log (ahL ah) = apartM x.n.log (ahL ah) from by unfold orderM; rw [if_neg (fun k => g2 yf)]]
    exact ⟨(), trivial, sbZ, ER⟩
  ·refine VG (VY 76 false Z (DF g1) ?_)
   refine zft ?_
   rw [show orderM x.n.log (ahL ah) = apartM x.n.log (ahL ah) from by unfold orderM; rw [if_neg (fun k => g1 k.1)]]
   exact ⟨(), trivial, sbZ, ER⟩
 rintro _ -
 refine CS ?_
 refine VC.meetS (σ := Option Addr × Nat) (fun s => [(2, pV b2), (3, pV b3), (5, .slice s.1 (Q ++ togO x.n (ah.map AudR.n)).length s.2), (6, .bool (goodM V.v)), (8, .slice (ahA ah) (ahL ah).length (ahC ah)), (9, .bool ah.isSome), (10, .int .i64 i), (11, pV b11)]) (fun s => [pt b11 (audC x) 71, slH 44 3 s.1 (Q ++ togO x.n (ah.map AudR.n)).length s.2 (flat fdC (Q ++ togO x.n (ah.map AudR.n))), pt b3 (vwC V) 41, pt b2 (c.cells qa qc) confT]) (fun _ => True) ?_ ?_
 ·refine xbz ?_
  rcases Bool.eq_false_or_eq_true ah.isSome with hsm | hsm
  rotate_left
  ·refine VG (VY 87 false Z hsm ?_)
   refine zft ?_
   rw [show Q ++ togO x.n (ah.map AudR.n) = Q from by rw [togO_ah, if_neg (fun k => by rw [hsm] at k; cases k.1), List.append_nil]]
   exact xdy
  refine VG (VY 87 true Z hsm ?_)
  refine xbz ?_
  refine CP (p := 0 ≤ orderM x.n.log (ahL ah)) Z (fun hp => ?_) (fun hp => CK ?_)
  ·refine xbz ?_
   refine VG (VI (LB (pv := [(0, .int .i64 5), (1, .int .i64 x.n.id), (2, .int .i64 (orderM x.n.log (ahL ah)))]) (fdC (5, x.n.id, (orderM x.n.log (ahL ah)))) Z Z Z Z Z) ?_)
   refine VG (VO.buildSlice (n := 1) (pv := [(0, .agg (fdC (5, x.n.id, (orderM x.n.log (ahL ah)))).toArray)]) (fdC (5, x.n.id, (orderM x.n.log (ahL ah)))) Z Z Z Z yk (fill_one Z Z Z) fun nb => ?_)
   refine VG (VO.append (m := 1) (news := fdC (5, x.n.id, (orderM x.n.log (ahL ah)))) 2 Z Z Z Z Z Z Z (RdRow.pt 0 Z Z Z) Z (small_bytes (k := 100000000) yf yk) yf fun a2 c2 hc2 => ?_)
   refine xdo ?_
   rw [show Q ++ togO x.n (ah.map AudR.n) = Q ++ [((5, x.n.id, (orderM x.n.log (ahL ah))) : FindM)] from by rw [togO_ah, if_pos ⟨hsm, hp⟩], List.length_append, flat_append]
   exact ⟨(a2, c2), trivial, sbZ, (pkZ [2, 0, 1, 1]).ent⟩
  ·rw [show Q ++ togO x.n (ah.map AudR.n) = Q from by rw [togO_ah, if_neg (fun k => hp k.2), List.append_nil]]
   exact xdy
 rintro ⟨sa, sc⟩ -
 dsimp only
 refine CS ?_
 refine VC.meetS (σ := Option Addr × Nat) (fun s => [(2, pV b2), (3, pV b3), (5, .slice s.1 (Q ++ togO x.n (ah.map AudR.n) ++ togL x.n V.done).length s.2), (6, .bool (goodM V.v)), (8, .slice (ahA ah) (ahL ah).length (ahC ah)), (9, .bool ah.isSome), (10, .int .i64 i), (11, pV b11)]) (fun s => [pt b11 (audC x) 71, slH 44 3 s.1 (Q ++ togO x.n (ah.map AudR.n) ++ togL x.n V.done).length s.2 (flat fdC (Q ++ togO x.n (ah.map AudR.n) ++ togL x.n V.done)), pt b3 (vwC V) 41, pt b2 (c.cells qa qc) confT]) (fun _ => True) ?_ ?_
 ·refine xcc ?_
  refine xbx ?_
  refine VG (VV (fun Fr w hF hs hS => apart_spec Fr w (hxm.log.of hF hs) (hV.done.of hF hs) yf yf) Z ?_)
  refine xbx ?_
  refine CP (p := 0 ≤ apartM x.n.log V.done) Z (fun hp => ?_) (fun hp => CK ?_)
  ·refine CD (ts 0 7 (.only 7 (.take 8 (.only 9 (.only 10 (.take 11 .nil)))))) yj yl ?_
   refine xeh ?_
   refine AG (AR (fun Fr w hF hs hS => apart_spec Fr w (hxm.log.of hF hs) (hV.done.of hF hs) yf yf) Z Z yaq ?_)
   refine AG (AI Z (LB (pv := [(0, .int .i64 6), (1, .int .i64 x.n.id), (2, .int .i64 (apartM x.n.log V.done))]) (fdC (6, x.n.id, (apartM x.n.log V.done))) Z Z Z Z Z) ?_)
   refine AG (AO (OpT.buildSlice (n := 1) (pv := [(0, .agg (fdC (6, x.n.id, (apartM x.n.log V.done))).toArray)]) (cells := fdC (6, x.n.id, (apartM x.n.log V.done))) rfl rfl rfl rfl yk (fill_one rfl rfl rfl)) rfl (fun v L' h => by obtain ⟨nb, rfl, rfl⟩ := h; exact yar) ?_)
   rintro v L' ⟨nb, rfl, rfl⟩
   refine AG (AO (OpT.append (m := 1) (news := fdC (6, x.n.id, (apartM x.n.log V.done))) 2 rfl rfl rfl rfl rfl rfl rfl (RdRow.pt 0 rfl rfl rfl) rfl (small_bytes (k := 100000000) yf yk) yf) rfl (fun v L' h => by obtain ⟨a2, c2, rfl, hc2, rfl⟩ := h; exact yar) ?_)
   rintro v L' ⟨a2, c2, rfl, hc2, rfl⟩
   refine xdp ?_
   rw [show Q ++ togO x.n (ah.map AudR.n) ++ togL x.n V.done = Q ++ togO x.n (ah.map AudR.n) ++ [((6, x.n.id, (apartM x.n.log V.done)) : FindM)] from by rw [← apart_log, if_pos hp], List.length_append, flat_append]
   exact ⟨(a2, c2), trivial, sbZ, (pkZ [2, 0, 1, 1]).ent⟩
  ·rw [show Q ++ togO x.n (ah.map AudR.n) ++ togL x.n V.done = Q ++ togO x.n (ah.map AudR.n) from by rw [← apart_log, if_neg hp, List.append_nil]]
   exact xdy
 rintro ⟨sa, sc⟩ -
 refine xbj ?_
 exact ⟨(some x, sa, sc), ⟨fun y h => by cases h; exact ME hxk, by rw [e]; rfl⟩, sbZ, (pkZ [1, 1, 1]).ent⟩
end Au
namespace Vg
open Go
def mitH (b m : Nat) : HP :=
 ⟨fun ids w => ids = [b] ∧ ∃ s l, w.heap[b]? = some (.mapIter (some m) s #[] l), fun _ _ _ h hs => ⟨hs.1, by
  obtain ⟨s, l, h2⟩ := hs.2
  exact ⟨s, l, (h b (by simp [hs.1])).trans h2⟩⟩⟩
section
variable {X : Cx} {e : Env} {L : List HP} {κ α : Type} {c : κ → Value} {d : α → Value}
theorem OpT.rangeMap {T kt et : TypeId} {x : Operand} {b : Nat} {xs : List (κ × α)} (hT : X.P.underlying T = some (.map kt et)) (hx : ev e x = some (.map (some b))) (hM : MpL X L c d b xs) :
  OpT X (.range T x) e L (fun v L' => ∃ q, v = .pointer (some ⟨q, 0, none⟩) ∧ L' = mitH q b :: L) := fun ac w ha hw dst ty pos after guard => by
 obtain ⟨es, clock, h1, h2, h3⟩ := hM w hw
 refine .inl ⟨_, w.alloc (.mapIter (some b) clock #[] clock), _, ?_, ⟨w.heap.size, Z, Z⟩, ?_⟩
 ·simp [execOp, ha.ev hx, Instr.range, run_underlying hT, newObj, Sem.run, MapKept.run_getObj_map h1]
 ·exact ⟨hw.sat.alloc hw.lowW _ _ ⟨rfl, clock, clock, heap_alloc_new w _⟩, hw.keep.trans (Keep.alloc hw.lowW _), hw.low⟩
theorem St.atMit {w : World} {b m : Nat} (h : St X L w) {i : Nat} (hL : L[i]? = some (mitH b m)) : ∃ s l, w.heap[b]? = some (.mapIter (some m) s #[] l) := by
 obtain ⟨F, hs, _, hb⟩ := h.sat
 obtain ⟨ids, h1, h2⟩ := hs.get hL
 obtain ⟨rfl, h1⟩ := h1
 exact h1
theorem OpT.nextMap0 {it : Operand} {b m : Nat} (i : Nat) (hx : ev e it = some (.pointer (some ⟨b, 0, none⟩))) (hL : L[i]? = some (mitH b m)) (hM : MpL X L c d m ([] : List (κ × α))) :
  OpT X (.next it false) e L (fun v L' => v = .tuple #[.bool false] ∧ L' = L) := fun ac w ha hw dst ty pos after guard => by
 obtain ⟨es, clock, h1, h2, h3⟩ := hM w hw
 have he : es = #[] := by
  have : es.toList.map (fun e => (e.key, e.val)) = [] := h2
  have := List.map_eq_nil_iff.1 this
  exact Array.toList_eq_nil_iff.1 this
 subst he
 obtain ⟨s, l, h4⟩ := hw.atMit hL
 refine .inl ⟨_, w, _, ?_, ⟨rfl, Z⟩, hw⟩
 simp [execOp, ha.ev hx, Instr.next, getObj, Sem.run, h1, h4, choose, Question.forced]
end
end Vg
namespace Au
open Go Vg T Api Kv Ch Lg Rd Conf Rep Sched Adm
attribute [local irreducible] VO VC VA
def Z0 : ConfM := ⟨0, 0, 0, [], 0, 0, 0, 0, 0, 0, 0, 0⟩
def F0 : ConfM := ⟨1, 1, 1, [96], 1, 1, 1, 4, 4, 4, 0, 1⟩
theorem f0_of : fitM Z0 = F0 := by decide +kernel
theorem f0_fit : F0 = fitM F0 := by decide +kernel
def nZ : List Value := [.int .i64 0, .int .i64 0, .int .i64 0, .int .i64 0, .int .i64 0, .int .i64 0]
def hisZ : List Value := [.bool true, .slice none 0 0, .int .i64 0] ++ nZ
theorem hnew_spec : Tri Tryz.prog 42 [] Fr w [] (fun v L => ∃ p, v = .pointer (some ⟨p, 0, none⟩) ∧ L = [pt p hisZ 151]) := by
 refine TF 3 Tryz.func42 Z yj tabOk Z Z ?_
 refine xdl ?_
 refine VG (VI (LB (pv := [(0, .bool true)]) hisZ Z Z Z yj Z) ?_)
 refine VG (VB (vs := hisZ) Z fun q => ?_)
 refine xdl ?_
 exact CR (Ret.tmp 0 Z Z ER ⟨q, Z, Z⟩)
def intV (n : Int) : Value := .int .i64 n
def lnkC (n : Int) (m : Nat) : List Value := [.int .i64 n, .map (some m)]
theorem lnew_spec {n : Int} (h0 : 1 ≤ n) (h1 : n ≤ 64) : Tri Tryz.prog 43 [.int .i64 n] Fr w [] (fun v L => ∃ p m, v = .tuple #[.pointer (some ⟨p, 0, none⟩), .int .i64 0] ∧ L = [pt p (lnkC n m) 140, mapH intV intV m []]) := by
 refine TF 14 Tryz.func43 Z yj tabOk Z Z ?_
 refine zfx ?_
 refine xbj ?_
 refine CP (p := 64 < n) Z (fun h => absurd h yf) (fun h => CK ?_)
 refine xbj ?_
 refine VG (VO.opx (OpT.makeMap intV intV) ?_)
 rintro _ _ ⟨m, rfl, rfl⟩
 refine VG (VI (LB (pv := [(0, .int .i64 n), (1, .map (some m))]) (lnkC n m) Z Z Z yj Z) ?_)
 refine VG (VB (vs := lnkC n m) Z fun q => ?_)
 refine xbf ?_
 exact CR (Ret.tmp2 2 3 Z Z Z ER ⟨q, m, Z, Z⟩)
def bktC (c r : Int) : List Value := [.int .i64 c, .int .i64 r, .int .i64 c, .int .i64 0, .int .i64 0]
theorem bnew_spec {c r : Int} (h0 : 0 ≤ c) (h1 : c ≤ 16) (h2 : 1 ≤ r) (h3 : r ≤ 1099511627776) : Tri Tryz.prog 82 [.int .i64 c, .int .i64 r] Fr w [] (fun v L => ∃ p, v = .tuple #[.pointer (some ⟨p, 0, none⟩), .int .i64 0] ∧ L = [pt p (bktC c r) 191]) := by
 refine TF 25 Tryz.func82 Z yj tabOk Z Z ?_
 refine xbf ?_
 refine VG (VY 8 false Z (DF yf) ?_)
 refine xbj ?_
 refine VG (VY 12 false Z (DF yf) ?_)
 refine xbj ?_
 refine VG (VY 16 false Z (DF yf) ?_)
 refine xbj ?_
 refine CP (p := 1099511627776 < r) Z (fun h => absurd h yf) (fun h => CK ?_)
 refine xbj ?_
 refine VG (VI (LB (pv := [(0, .int .i64 c), (1, .int .i64 r), (2, .int .i64 c)]) (bktC c r) Z Z Z yj Z) ?_)
 refine VG (VB (vs := bktC c r) Z fun q => ?_)
 refine xbf ?_
 exact CR (Ret.tmp2 4 5 Z Z Z ER ⟨q, Z, Z⟩)
def cliC (id cl timeout budget : Int) (tok : Value) : List Value := [.int .i64 id, .int .i64 cl, .int .i64 timeout, .int .i64 budget, tok, .int .i64 0, .slice none 0 0, .int .i64 0, .pointer none, .int .i64 0, .int .i64 0, .int .i64 0, .bool false, .int .i64 0, .int .i64 0, .int .i64 0, .int .i64 0, .int .i64 0, .string ⟨#[]⟩, .string ⟨#[]⟩, .int .i64 0]
theorem cnew_spec {c : ConfM} (hf : c = fitM c) (hb : 0 ≤ c.budget ∧ c.budget ≤ 16 ∧ 1 ≤ c.refill ∧ c.refill ≤ 1099511627776) {qa : Option Addr} {qc : Nat} (hq : IntsIn Fr w qa c.qs) (hqa : AdOk qa) (hqc : c.qs.length ≤ qc) {id : Int} (h0 : 0 ≤ id) (h1 : id < c.clients) :
  Tri Tryz.prog 45 [.agg (c.cells qa qc).toArray, .int .i64 id] Fr w [] (fun v L => ∃ p q, v = .tuple #[.pointer (some ⟨p, 0, none⟩), .int .i64 0] ∧ L = [pt p (cliC id c.qs.length c.timeout c.budget (.pointer (some ⟨q, 0, none⟩))) 163, pt q (bktC c.budget c.refill) 191]) := by
 have hk : checkM c = 0 := by unfold checkM; rw [if_pos hf]
 refine TF 42 Tryz.func45 Z yj tabOk Z Z ?_
 refine CS (CG (VG (VB (vs := c.cells qa qc) Z fun b2 => VG (VN ?_))))
 refine xdl ?_
 refine VG (VL 0 (c.cells qa qc) Z Z Z Z ?_)
 refine VG (VV (fun Fr w hF hs _ => by have := Conf.check_spec Fr w c qa qc (ints_of hq hF hs) hqa hqc; rw [hk] at this; exact this) Z ?_)
 refine xbj ?_
 refine VG (VY 10 false Z Z ?_)
 refine xbj ?_
 refine VG (VY 14 false Z (DF yf) ?_)
 refine xbj ?_
 refine CP (p := c.clients ≤ id) Z (fun h => absurd h yf) (fun h => CK ?_)
 refine xbj ?_
 refine VG (VI (LB (pv := [(0, .int .i64 id), (1, .int .i64 c.qs.length), (2, .int .i64 c.timeout), (3, .int .i64 c.budget)]) (cliC id c.qs.length c.timeout c.budget (.pointer none)) Z Z Z yj Z) ?_)
 refine VG (VB (vs := cliC id c.qs.length c.timeout c.budget (.pointer none)) Z fun p => ?_)
 refine xbz ?_
 refine VG (VK (Lc := []) (fun Fr w hF hs _ => bnew_spec Fr w hb.1 hb.2.1 hb.2.2.1 hb.2.2.2) Z Z ?_)
 rintro _ _ ⟨q, rfl, rfl⟩
 refine xbz ?_
 refine VG (VO.st 1 (cs' := cliC id c.qs.length c.timeout c.budget (.pointer (some ⟨q, 0, none⟩))) Z Z Z Z (by show 4 < 21; omega) Z Z ?_)
 refine xbz ?_
 exact CR (Ret.tmp2 4 5 Z Z Z (IP 1 Z (IP 0 Z (Imp.nil))).ent ⟨p, q, Z, Z⟩)
def masC (a : Option Addr) (n : Nat) (b : Bool) : List Value := [.int .i64 1, .int .i64 4, .int .i64 1, .slice a 1 n, .int .i64 (-1)] ++ nZ ++ [.bool b, .bool false, .bool false, .bool false, .bool false, .bool false]
abbrev masT : TypeId := 122
theorem mnew_spec {qa : Option Addr} {qc : Nat} (hq : IntsIn Fr w qa F0.qs) (hqa : AdOk qa) (hqc : 1 ≤ qc) :
  Tri Tryz.prog 41 [.agg (F0.cells qa qc).toArray] Fr w [] (fun v L => ∃ p b n rest, v = .tuple #[.pointer (some ⟨p, 0, none⟩), .int .i64 0] ∧ L = [pt p (masC (some ⟨b, 0, none⟩) n true) masT, pt b (memC (0, 1) ++ rest) memT]) := by
 refine TF 38 Tryz.func41 Z yj tabOk Z Z ?_
 refine CS (CG (VG (VB (vs := F0.cells qa qc) Z fun b1 => VG (VN ?_))))
 refine xdl ?_
 refine VG (VL 0 (F0.cells qa qc) Z Z Z Z ?_)
 refine VG (VK (Lc := []) (fun Fr w hF hs _ => first_spec Fr w F0 qa qc (ints_of hq hF hs) hqa hqc) Z Z ?_)
 rintro v L1 h
 rw [if_pos f0_fit] at h
 obtain ⟨a, n, rfl, rfl⟩ := h
 refine VO.opn 0 Z (HOpn.one memT a n (0, 1)) ?_
 rintro ⟨mb, rest⟩ rfl
 refine xdo ?_
 refine VG (VO.alloc Z fun b4 => ?_)
 refine VG (VT (vs := (firstC F0).cells (some ⟨mb, 0, none⟩) n) (cs' := (firstC F0).cells (some ⟨mb, 0, none⟩) n) 0 Z Z Z Z (NR _) Z Z Z ?_)
 refine xdo ?_
 refine xbh ?_
 refine xbx ?_
 refine VG (VL 0 ((firstC F0).cells (some ⟨mb, 0, none⟩) n) Z Z Z Z ?_)
 refine VG (VI (LB (pv := [(0, .int .i64 1), (1, .int .i64 4), (2, .agg ((firstC F0).cells (some ⟨mb, 0, none⟩) n).toArray)]) (masC (some ⟨mb, 0, none⟩) n false) Z Z Z yj Z) ?_)
 refine VG (VB (vs := masC (some ⟨mb, 0, none⟩) n false) Z fun q => ?_)
 refine xbz ?_
 refine VC.loop (σ := Nat) (fun k => [(6, pV q), (24, .slice (some ⟨mb, 0, none⟩) 1 n), (25, .int .i64 1), (26, .int .i64 k)]) (fun k => [pt q (masC (some ⟨mb, 0, none⟩) n (k == 1)) masT, pt b4 ((firstC F0).cells (some ⟨mb, 0, none⟩) n) chT, pt mb (memC (0, 1) ++ rest) memT, pt b1 (F0.cells qa qc) confT]) (fun k => k ≤ 1) (fun k => 1 - k) 0
  yk sbZ ER ?_
 rintro k hk
 refine xdo ?_
 refine CP (p := (k : Int) < 1) Z (fun h2 => CK ?_) (fun h2 => CX ?_)
 rotate_left
 ·obtain rfl : k = 1 := by omega
  refine xdo ?_
  exact CR (Ret.tmp2 2 3 Z Z Z (IP 0 Z (IP 1 Z (Imp.nil))).ent ⟨q, mb, n, rest, Z, Z⟩)
 obtain rfl : k = 0 := by omega
 refine xdo ?_
 refine xeq ?_
 refine VG (VL 2 (memC (0, 1)) Z Z Z Z ?_)
 refine VG (VO.alloc Z fun b8 => ?_)
 refine VG (VT (vs := memC (0, 1)) (cs' := memC (0, 1)) 0 Z Z Z Z (NR _) Z Z Z (VG (VN ?_)))
 refine CD (ts 0 6 (.only 6 .nil)) yj yl ?_
 refine xei ?_
 refine AG (AI Z (light_idxA 0 Z Z Z Z Z Z yk) ?_)
 refine AG (VA.st 1 (cs' := masC (some ⟨mb, 0, none⟩) n true) Z Z Z Z Z (by show 11 < 17; omega) Z Z (by (try refine Pd.st ?_);(repeat (first|exact Pd.nil|exact Pd.fnil|refine Pd.inner ?_|refine Pd.skip yl ?_|refine zf (zo 0 Z Z) ?_|refine zf (zo 1 Z Z) ?_|refine zf (zo 2 Z Z) ?_|refine zf (zo 3 Z Z) ?_|refine zf (zo 4 Z Z) ?_|refine zf (zo 5 Z Z) ?_|refine zf (zo 6 Z Z) ?_|refine zf (zo 7 Z Z) ?_|refine zf (zo 8 Z Z) ?_|refine zf (zm 0 Z Z) ?_|refine zf (zm 1 Z Z) ?_|refine zf (zm 2 Z Z) ?_|refine zf (zm 3 Z Z) ?_|refine zf (zm 4 Z Z) ?_|refine zf (zm 5 Z Z) ?_|refine zf (zm 6 Z Z) ?_|refine zf (zm 7 Z Z) ?_|refine zf (zm 8 Z Z) ?_|refine zc (zo 0 Z Z) ?_|refine zc (zo 1 Z Z) ?_|refine zc (zo 2 Z Z) ?_|refine zc (zo 3 Z Z) ?_|refine zc (zo 4 Z Z) ?_|refine zc (zo 5 Z Z) ?_|refine zc (zo 6 Z Z) ?_|refine zc (zo 7 Z Z) ?_|refine zc (zo 8 Z Z) ?_|refine zc (zm 0 Z Z) ?_|refine zc (zm 1 Z Z) ?_|refine zc (zm 2 Z Z) ?_|refine zc (zm 3 Z Z) ?_|refine zc (zm 4 Z Z) ?_|refine zc (zm 5 Z Z) ?_|refine zc (zm 6 Z Z) ?_|refine zc (zm 7 Z Z) ?_|refine zc (zm 8 Z Z) ?_|refine Pd.fconsM (MpL.one 0 Z) ?_|refine Pd.fconsM (MpL.one 1 Z) ?_|refine Pd.fconsM (MpL.one 2 Z) ?_|refine Pd.fconsM (MpL.one 3 Z) ?_|refine Pd.fconsM (MpL.one 4 Z) ?_|refine Pd.fconsM (MpL.one 5 Z) ?_|refine Pd.fconsM (MpL.one 6 Z) ?_|refine Pd.fconsM (MpL.one 7 Z) ?_|refine Pd.fconsM (MpL.one 8 Z) ?_|refine Pd.consM (MpL.one 0 Z) ?_|refine Pd.consM (MpL.one 1 Z) ?_|refine Pd.consM (MpL.one 2 Z) ?_|refine Pd.consM (MpL.one 3 Z) ?_|refine Pd.consM (MpL.one 4 Z) ?_|refine Pd.consM (MpL.one 5 Z) ?_|refine Pd.consM (MpL.one 6 Z) ?_|refine Pd.consM (MpL.one 7 Z) ?_|refine Pd.consM (MpL.one 8 Z) ?_))) ?_)
 refine xdm ?_
 refine zff ?_
 exact ⟨1, by decide, by decide, sbZ, (pkZ [1, 1, 1, 1]).ent⟩
end Au
namespace Au
open Go Vg T Api Kv Ch Lg Rd Conf Rep Sched Adm
attribute [local irreducible] VO VC VA
theorem ints_row {X : Cx} {L : List HP} {a : Option Addr} {cap : Nat} {qs : List Int} (hq : IntsIn X.Fr X.w0 a qs) (hne : qs ≠ []) : RdRow X L (.slice a qs.length cap) 1 qs.length (intCs qs) := by
 obtain ⟨b, off, rfl, h2, h3⟩ := hq.at_ hne
 refine ⟨by simp [intCs], .inr ⟨b, off, cap, Z, fun w' hw' j v hv => ?_⟩⟩
 rw [intCs, List.getElem?_map] at hv
 cases hj : qs[j]? with
 | none => rw [hj] at hv; cases hv
 | some x =>
  rw [hj] at hv
  obtain rfl := Option.some.inj hv
  exact cell_of_keep (hw'.keep.block b h2) (h3 j x hj)
abbrev cluT : TypeId := 56
def cluC (qa : Option Addr) (qc : Nat) (m : Nat) (ns cs l : Value) (h : Nat) : List Value := F0.cells qa qc ++ [.int .i64 0, .pointer (some ⟨m, 0, none⟩), ns, cs, l, .pointer (some ⟨h, 0, none⟩), .slice none 0 0]
def freshL (p : Nat) (qa2 : Option Addr) (qc2 m mb mn : Nat) (mrest : List Value) (h l lm : Nat) (na : Option Addr) (nc r : Nat) (ca : Option Addr) (cc x k : Nat) : List HP := [pt p (cluC qa2 qc2 m (.slice na 1 nc) (.slice ca 1 cc) (.pointer (some ⟨l, 0, none⟩)) h) cluT, intH qa2 qc2 [96], pt l (lnkC 4 lm) 140, mapH intV intV lm [], pt h hisZ 151, pt m (masC (some ⟨mb, 0, none⟩) mn true) masT, pt mb (memC (0, 1) ++ mrest) memT, slH 80 1 na 1 nc [.pointer (some ⟨r, 0, none⟩)], repH r (newR F0 0 false), slH 107 1 ca 1 cc [.pointer (some ⟨x, 0, none⟩)], pt x (cliC 0 1 4 0 (.pointer (some ⟨k, 0, none⟩))) 163, pt k (bktC 0 1) 191]
theorem clnew_spec {qa : Option Addr} {qc : Nat} (hq : IntsIn Fr w qa F0.qs) (hqc : 1 ≤ qc) :
  Tri Tryz.prog 14 [.agg (F0.cells qa qc).toArray] Fr w [] (fun v L => ∃ p qa2 qc2 m mb mn mrest h l lm na nc r ca cc x k, v = .tuple #[.pointer (some ⟨p, 0, none⟩), .int .i64 0] ∧ L = freshL p qa2 qc2 m mb mn mrest h l lm na nc r ca cc x k) := by
 refine TF 83 Tryz.func14 Z yj tabOk Z Z ?_
 refine CS (CG (VG (VB (vs := F0.cells qa qc) Z fun b1 => VG (VN ?_))))
 refine xdl ?_
 refine VG (VL 0 (F0.cells qa qc) Z Z Z Z ?_)
 refine VG (VK (Lc := []) (fun Fr w hF hs _ => mnew_spec Fr w (ints_of hq hF hs) trivial hqc) Z Z ?_)
 rintro _ _ ⟨m, mb, mn, mrest, rfl, rfl⟩
 refine xdo ?_
 refine xbh ?_
 refine xbx ?_
 refine VO.ent (L' := slH 3 1 none 0 0 [] :: [pt m (masC (some ⟨mb, 0, none⟩) mn true) masT, pt mb (memC (0, 1) ++ mrest) memT, pt b1 (F0.cells qa qc) confT]) (Imp.slNil Imp.refl).ent ?_
 refine VG (VO.append (m := 1) (news := intCs [96]) 0 Z Z Z Z Z Z Z (ints_row hq yk) Z yk yk fun qa2 qc2 hqc2 => ?_)
 have hqc3 : 1 ≤ qc2 := by omega
 refine xdo ?_
 refine VG (VO.st 3 (cs' := F0.cells qa2 qc2) Z Z Z Z yq Z Z ?_)
 refine xcd ?_
 show VC _ _ _ [intH qa2 qc2 [96], pt m (masC (some ⟨mb, 0, none⟩) mn true) masT, pt mb (memC (0, 1) ++ mrest) memT, pt b1 (F0.cells qa2 qc2) confT] _
 refine CS ?_
 refine CD (ts 0 2 (.only 2 (.take 3 (.only 4 (.take 5 .nil))))) yj yl ?_
 refine AG (VA.ldA 3 (F0.cells qa2 qc2) Z Z Z Z Z ?_)
 refine xdm ?_
 refine AG (AO (OC (Lc := []) rfl (.refl _) (fun Fr w _ _ _ => hnew_spec Fr w)) rfl (fun v L' g => by obtain ⟨_, ⟨h, rfl, rfl⟩, rfl⟩ := g; exact yas) ?_)
 rintro v L' ⟨_, ⟨h, rfl, rfl⟩, rfl⟩
 refine AG (AI Z (LB (pv := [(0, .agg (F0.cells qa2 qc2).toArray), (2, pV m), (6, pV h)]) (cluC qa2 qc2 m (.slice none 0 0) (.slice none 0 0) (.pointer none) h) Z Z Z yj Z) ?_)
 refine AG (AO (OpT.box (vs := cluC qa2 qc2 m (.slice none 0 0) (.slice none 0 0) (.pointer none) h) rfl rfl) rfl (fun v L' g => by obtain ⟨p, rfl, rfl⟩ := g; exact yas) ?_)
 rintro v L' ⟨p, rfl, rfl⟩
 refine xdm ?_
 (repeat (first|refine zS ?_|refine zR ?_|refine zB ?_|refine zL ?_|refine zC ?_|refine zG (zN ?_)|refine zG (zD 0 rfl rfl rfl rfl ?_)|refine zG (zD 1 rfl rfl rfl rfl ?_)|refine zG (zD 2 rfl rfl rfl rfl ?_)|refine zG (zD 3 rfl rfl rfl rfl ?_)|refine zG (zD 4 rfl rfl rfl rfl ?_)|refine zG (zD 5 rfl rfl rfl rfl ?_)|refine zG (zU rfl rfl rfl ?_)))
 refine VG (VK (Lc := []) (fun Fr w _ _ _ => lnew_spec Fr w (n := 4) yk yk) Z Z ?_)
 rintro _ _ ⟨l, lm, rfl, rfl⟩
 refine xdo ?_
 refine VG (VO.st 2 (cs' := cluC qa2 qc2 m (.slice none 0 0) (.slice none 0 0) (.pointer (some ⟨l, 0, none⟩)) h) Z Z Z Z (by show 16 < 19; omega) Z Z ?_)
 refine xcd ?_
 refine CN (L' := [pt p (cluC qa2 qc2 m (.slice none 0 0) (.slice none 0 0) (.pointer (some ⟨l, 0, none⟩)) h) cluT, pt b1 (F0.cells qa2 qc2) confT, intH qa2 qc2 [96], pt l (lnkC 4 lm) 140, mapH intV intV lm [], pt h hisZ 151, pt m (masC (some ⟨mb, 0, none⟩) mn true) masT, pt mb (memC (0, 1) ++ mrest) memT]) (pkZ [2, 6, 3, 0, 0, 0, 0, 0]).ent ?_
 refine xdo ?_
 refine VC.loop (σ := Option (Option Addr × Nat × Nat)) (fun s => [(1, pV b1), (6, pV p), (7, .int .i64 (if s.isSome then 1 else 0))]) (fun s => match s with | none => [pt p (cluC qa2 qc2 m (.slice none 0 0) (.slice none 0 0) (.pointer (some ⟨l, 0, none⟩)) h) cluT, pt b1 (F0.cells qa2 qc2) confT, intH qa2 qc2 [96], pt l (lnkC 4 lm) 140, mapH intV intV lm [], pt h hisZ 151, pt m (masC (some ⟨mb, 0, none⟩) mn true) masT, pt mb (memC (0, 1) ++ mrest) memT] | some (na, nc, r) => [pt p (cluC qa2 qc2 m (.slice na 1 nc) (.slice none 0 0) (.pointer (some ⟨l, 0, none⟩)) h) cluT, pt b1 (F0.cells qa2 qc2) confT, intH qa2 qc2 [96], pt l (lnkC 4 lm) 140, mapH intV intV lm [], pt h hisZ 151, pt m (masC (some ⟨mb, 0, none⟩) mn true) masT, pt mb (memC (0, 1) ++ mrest) memT, slH 80 1 na 1 nc [.pointer (some ⟨r, 0, none⟩)], repH r (newR F0 0 false)]) (fun _ => True) (fun s => if s.isSome then 0 else 1) none
  trivial sbZ ER ?_
 intro s _
 rcases s with _ | ⟨na, nc, r⟩
 ·refine xbz ?_
  refine VC.condT Z (CK ?_)
  refine CS (VC.block (CS (CG ?_)))
  refine VG (VL 1 (F0.cells qa2 qc2) Z Z Z Z ?_)
  refine xdo ?_
  refine VG (VK (Lc := []) (fun Fr w hF hs hS => Rep.new_spec Fr w F0 qa2 qc2 (ints_sl (hS.at_ 2 Z)) trivial hqc3 0 false) Z Z ?_)
  rintro v L1 g
  rw [if_pos yl] at g
  obtain ⟨r, rfl, rfl⟩ := g
  refine xdo ?_
  refine xbz ?_
  refine VO.ent (L' := slH 80 1 none 0 0 [] :: (repH r (newR F0 0 false) :: [pt p (cluC qa2 qc2 m (.slice none 0 0) (.slice none 0 0) (.pointer (some ⟨l, 0, none⟩)) h) cluT, pt b1 (F0.cells qa2 qc2) confT, intH qa2 qc2 [96], pt l (lnkC 4 lm) 140, mapH intV intV lm [], pt h hisZ 151, pt m (masC (some ⟨mb, 0, none⟩) mn true) masT, pt mb (memC (0, 1) ++ mrest) memT])) (Imp.slNil Imp.refl).ent ?_
  refine VG (VO.buildSlice (n := 1) (pv := [(0, pV r)]) [.pointer (some ⟨r, 0, none⟩)] Z Z Z Z yk (fill_one Z Z Z) fun nb => ?_)
  refine VG (VO.append (m := 1) (news := [.pointer (some ⟨r, 0, none⟩)]) 1 Z Z Z Z Z Z Z (RdRow.pt 0 Z Z Z) Z yk yk fun na nc hnc => ?_)
  refine xdo ?_
  refine VG (VO.st 3 (cs' := cluC qa2 qc2 m (.slice na 1 nc) (.slice none 0 0) (.pointer (some ⟨l, 0, none⟩)) h) Z Z Z Z (by show 14 < 19; omega) Z Z ?_)
  refine xcd ?_
  refine zff ?_
  exact ⟨some (na, nc, r), trivial, Nat.zero_lt_one, sbZ, (pkZ [3, 3, 3, 3, 3, 3, 3, 3, 0, 1]).ent⟩
 refine xbz ?_
 refine xdn ?_
 refine xdo ?_
 refine VC.loop (σ := Option (Option Addr × Nat × Nat × Nat)) (fun s => [(1, pV b1), (6, pV p), (10, .int .i64 (if s.isSome then 1 else 0))]) (fun s => match s with | none => [pt p (cluC qa2 qc2 m (.slice na 1 nc) (.slice none 0 0) (.pointer (some ⟨l, 0, none⟩)) h) cluT, pt b1 (F0.cells qa2 qc2) confT, intH qa2 qc2 [96], pt l (lnkC 4 lm) 140, mapH intV intV lm [], pt h hisZ 151, pt m (masC (some ⟨mb, 0, none⟩) mn true) masT, pt mb (memC (0, 1) ++ mrest) memT, slH 80 1 na 1 nc [.pointer (some ⟨r, 0, none⟩)], repH r (newR F0 0 false)] | some (ca, cc, x, k) => [pt p (cluC qa2 qc2 m (.slice na 1 nc) (.slice ca 1 cc) (.pointer (some ⟨l, 0, none⟩)) h) cluT, pt b1 (F0.cells qa2 qc2) confT, intH qa2 qc2 [96], pt l (lnkC 4 lm) 140, mapH intV intV lm [], pt h hisZ 151, pt m (masC (some ⟨mb, 0, none⟩) mn true) masT, pt mb (memC (0, 1) ++ mrest) memT, slH 80 1 na 1 nc [.pointer (some ⟨r, 0, none⟩)], repH r (newR F0 0 false), slH 107 1 ca 1 cc [.pointer (some ⟨x, 0, none⟩)], pt x (cliC 0 1 4 0 (.pointer (some ⟨k, 0, none⟩))) 163, pt k (bktC 0 1) 191]) (fun _ => True) (fun s => if s.isSome then 0 else 1) none
  trivial sbZ ER ?_
 intro s _
 rcases s with _ | ⟨ca, cc, x, k⟩
 ·refine xbz ?_
  refine VC.condT Z (CK ?_)
  refine CS (VC.block (CS (CG ?_)))
  refine VG (VL 1 (F0.cells qa2 qc2) Z Z Z Z ?_)
  refine xdo ?_
  refine VG (VK (Lc := []) (fun Fr w hF hs hS => cnew_spec Fr w f0_fit yk (ints_sl (hS.at_ 2 Z)) trivial hqc3 (id := 0) yk yk) Z Z ?_)
  rintro _ _ ⟨x, k, rfl, rfl⟩
  refine xdo ?_
  refine xbx ?_
  refine VO.ent (L' := slH 107 1 none 0 0 [] :: (pt x (cliC 0 1 4 0 (.pointer (some ⟨k, 0, none⟩))) 163 :: pt k (bktC 0 1) 191 :: [pt p (cluC qa2 qc2 m (.slice na 1 nc) (.slice none 0 0) (.pointer (some ⟨l, 0, none⟩)) h) cluT, pt b1 (F0.cells qa2 qc2) confT, intH qa2 qc2 [96], pt l (lnkC 4 lm) 140, mapH intV intV lm [], pt h hisZ 151, pt m (masC (some ⟨mb, 0, none⟩) mn true) masT, pt mb (memC (0, 1) ++ mrest) memT, slH 80 1 na 1 nc [.pointer (some ⟨r, 0, none⟩)], repH r (newR F0 0 false)])) (Imp.slNil Imp.refl).ent ?_
  refine VG (VO.buildSlice (n := 1) (pv := [(0, pV x)]) [.pointer (some ⟨x, 0, none⟩)] Z Z Z Z yk (fill_one Z Z Z) fun nb => ?_)
  refine VG (VO.append (m := 1) (news := [.pointer (some ⟨x, 0, none⟩)]) 1 Z Z Z Z Z Z Z (RdRow.pt 0 Z Z Z) Z yk yk fun ca cc hcc => ?_)
  refine xdo ?_
  refine VG (VO.st 4 (cs' := cluC qa2 qc2 m (.slice na 1 nc) (.slice ca 1 cc) (.pointer (some ⟨l, 0, none⟩)) h) Z Z Z Z (by show 15 < 19; omega) Z Z ?_)
  refine xcd ?_
  refine zff ?_
  exact ⟨some (ca, cc, x, k), trivial, Nat.zero_lt_one, sbZ, (pkZ [4, 4, 4, 4, 4, 4, 4, 4, 4, 4, 0, 1, 1]).ent⟩
 refine xbz ?_
 refine xdn ?_
 refine xdo ?_
 exact CR (Ret.tmp2 2 3 Z Z Z (IP 0 Z (IP 1 Z (IP 1 Z (IP 1 Z (IP 1 Z (IP 1 Z (IP 1 Z (IP 1 Z (IP 1 Z (IP 1 Z (IP 1 Z (IP 1 Z (Imp.nil))))))))))))).ent ⟨p, qa2, qc2, m, mb, mn, mrest, h, l, lm, na, nc, r, ca, cc, x, k, Z, Z⟩)
end Au
namespace Vg
open Go
section
variable {X : Cx} {e : Env} {L : List HP}
theorem light_strAt {T : TypeId} {x y : Operand} {s : ByteArray} {b : UInt8} {k : IntKind} {j : Int} {tt : TI} (i : Nat) (hx : ev e x = some (.string s)) (hy : ev e y = some (.int k j)) (hT : tyLook X.tab T = some tt) (hu : tt.und = .string)
  (hj : j = i) (hb : s.data.toList[i]? = some b) : Light X (.index T x y) e (.int .u8 (b.toNat : Int)) := by
 intro a ha dst ty pos after guard w
 have hund := und_string (X.ok.look hT) hu
 subst hj
 have hb2 : s[i]? = some b := by
  have : s.data[i]? = some b := by simpa using hb
  obtain ⟨h1, h2⟩ := Array.getElem?_eq_some_iff.1 this
  rw [getElem?_pos s i h1]
  exact congrArg some h2
 simp [execOp, ha.ev hx, ha.ev hy, Instr.index, asIntOf, run_underlying hund, hb2]
end
end Vg
namespace Au
open Go Vg T Api Kv Ch Lg Rd Conf Rep Sched Adm
attribute [local irreducible] VO VC VA
theorem len64_spec : Tri Tryz.prog 113 [.int .u64 0] Fr w [] (fun v L => v = .int .i64 0 ∧ L = []) := by
 refine TF 25 Tryz.func113 Z yj tabOk Z Z ?_
 refine zfj ?_
 refine zfj ?_
 refine zfj ?_
 refine xbj ?_
 refine VG (VI (light_conv 0 Z Z Z Z Z Z) ?_)
 refine VG (VI (light_strAt (b := 0) 0 Z Z Z Z Z Z) ?_)
 refine VG (VI (light_conv 0 Z Z Z Z Z Z) ?_)
 refine VG (VP Z Z yk yk ?_)
 refine xbj ?_
 exact xbi
theorem len_spec : Tri Tryz.prog 95 [.int .u64 0] Fr w [] (fun v L => v = .int .i64 0 ∧ L = []) := by
 refine TF 8 Tryz.func95 Z yj tabOk Z Z ?_
 refine zfj ?_
 refine xbj ?_
 refine VG (VV (fun Fr w hF hs hS => len64_spec Fr w) Z ?_)
 refine xbj ?_
 exact xbi
theorem ins0_spec (u : Value) : Tri Tryz.prog 104 [.slice none 0 0, .int .i64 0, .int .i64 0, u] Fr w [] (fun v L => v = .tuple #[] ∧ L = []) := by
 refine TF 53 Tryz.func104 Z yj tabOk Z Z ?_
 refine xbj ?_
 refine VG (VP Z Z yk yk ?_)
 refine xbj ?_
 refine VC.loop (σ := Unit) (fun _ => [(2, .int .i64 0), (8, .int .i64 1)]) (fun _ => []) (fun _ => True) (fun _ => 0) () trivial sbZ ER ?_
 rintro _ -
 refine xbj ?_
 refine xdn ?_
 exact Ret.void Z ER ⟨rfl, Z⟩
theorem pdq0_spec (u : Value) : Tri Tryz.prog 94 [.slice none 0 0, .int .i64 0, .int .i64 0, .int .i64 0, u] Fr w [] (fun v L => v = .tuple #[] ∧ L = []) := by
 refine TF 148 Tryz.func94 Z yj tabOk Z Z ?_
 refine xbj ?_
 refine VC.loop (σ := Unit) (fun _ => [(0, .slice none 0 0), (1, .int .i64 0), (2, .int .i64 0), (3, .int .i64 0), (4, u)]) (fun _ => []) (fun _ => True) (fun _ => 0) () trivial sbZ ER ?_
 rintro _ -
 refine xbj ?_
 refine VG (VO.sub' Z Z yk yk ?_)
 refine xbj ?_
 refine xbm ?_
 refine xbj ?_
 refine VG (VV (fun Fr w hF hs hS => ins0_spec Fr w u) Z ?_)
 refine xbj ?_
 exact CR (Ret.void Z ER ⟨rfl, Z⟩)
theorem sort0_spec (u : Value) : Tri Tryz.prog 71 [.slice none 0 0, u] Fr w [] (fun v L => v = .tuple #[] ∧ L = []) := by
 refine TF 14 Tryz.func71 Z yj tabOk Z Z ?_
 refine xbj ?_
 refine VG (VI (light_conv 0 Z Z Z Z Z Z) ?_)
 refine VG (VV (fun Fr w hF hs hS => len_spec Fr w) Z ?_)
 refine xbj ?_
 refine VG (VV (fun Fr w hF hs hS => pdq0_spec Fr w u) Z ?_)
 refine xbj ?_
 exact Ret.void Z ER ⟨rfl, Z⟩
abbrev lnkT : TypeId := 140
theorem lnone_spec {l m : Nat} {n : Int} (h : Blk Fr w l (lnkC n m)) : Tri Tryz.prog 70 [.pointer (some ⟨l, 0, none⟩)] Fr w [] (fun v L => v = .bool false ∧ L = []) := by
 refine TF 12 Tryz.func70 Z yj tabOk Z Z ?_
 refine xbf ?_
 refine VG (VY 5 false Z Z ?_)
 refine xer ?_
 refine VG (VI (light_mapNil Tryz.underlying138 Z Z) ?_)
 refine xdo ?_
 exact xbl
theorem lcopy_spec {l m : Nat} {n : Int} (h : Blk Fr w l (lnkC n m)) (hm : MapBlk Fr w intV intV m ([] : List (Int × Int))) :
  Tri Tryz.prog 69 [.pointer (some ⟨l, 0, none⟩)] Fr w [] (fun v L => ∃ l2 m2, v = .pointer (some ⟨l2, 0, none⟩) ∧ L = [pt l2 (lnkC n m2) lnkT, mapH intV intV m2 []]) := by
 refine TF 33 Tryz.func69 Z yj tabOk Z Z ?_
 refine xdo ?_
 refine VG (VV (fun Fr w hF hs hS => lnone_spec Fr w (h.keep hF hs)) Z ?_)
 refine xdo ?_
 refine xbh ?_
 refine xer ?_
 refine VG (VO.opx (OpT.makeMap intV intV) ?_)
 rintro _ _ ⟨m2, rfl, rfl⟩
 refine VG (VI (LB (pv := [(0, .int .i64 n), (1, .map (some m2))]) (lnkC n m2) Z Z Z yj Z) ?_)
 refine VG (VB (vs := lnkC n m2) Z fun l2 => ?_)
 refine xer ?_
 refine VG (VO.opx (OpT.rangeMap Tryz.underlying138 Z (MpL.blk hm)) ?_)
 rintro _ _ ⟨it, rfl, rfl⟩
 refine xdo ?_
 refine VC.loop (σ := Unit) (fun _ => [(3, pV l2), (19, pV it)]) (fun _ => [mitH it m, pt l2 (lnkC n m2) lnkT, mapH intV intV m2 []]) (fun _ => True) (fun _ => 0) () trivial sbZ ER ?_
 rintro _ -
 refine xdo ?_
 refine VG (VO.opx (OpT.nextMap0 0 Z Z (MpL.blk hm)) ?_)
 rintro _ _ ⟨rfl, rfl⟩
 refine xdo ?_
 refine xdn ?_
 refine xdo ?_
 exact CR (Ret.tmp 2 Z Z (IP 1 Z (IP 1 Z Imp.nil)).ent ⟨l2, m2, Z, Z⟩)
theorem pairs_spec {l m : Nat} {n : Int} (h : Blk Fr w l (lnkC n m)) (hm : MapBlk Fr w intV intV m ([] : List (Int × Int))) :
  Tri Tryz.prog 38 [.pointer (some ⟨l, 0, none⟩)] Fr w [] (fun v L => v = .slice none 0 0 ∧ L = []) := by
 refine TF 27 Tryz.func38 Z yj tabOk Z Z ?_
 refine xdo ?_
 refine VG (VV (fun Fr w hF hs hS => lnone_spec Fr w (h.keep hF hs)) Z ?_)
 refine xdo ?_
 refine xbh ?_
 refine xer ?_
 refine VG (VO.opx (OpT.rangeMap Tryz.underlying138 Z (MpL.blk hm)) ?_)
 rintro _ _ ⟨it, rfl, rfl⟩
 refine xdo ?_
 refine VC.loop (σ := Unit) (fun _ => [(3, .slice none 0 0), (11, pV it)]) (fun _ => [mitH it m]) (fun _ => True) (fun _ => 0) () trivial sbZ ER ?_
 rintro _ -
 refine xdo ?_
 refine VG (VO.opx (OpT.nextMap0 0 Z Z (MpL.blk hm)) ?_)
 rintro _ _ ⟨rfl, rfl⟩
 refine xdo ?_
 refine xdn ?_
 refine xdo ?_
 refine VG (VV (fun Fr w hF hs hS => sort0_spec Fr w _) Z ?_)
 refine xdo ?_
 exact xes
end Au
namespace Au
open Go Vg T Api Kv Ch Lg Rd Conf Rep Sched Adm
attribute [local irreducible] VO VC VA
structure CluIn (Fr : Nat → Prop) (w : World) (p m r l lm nb : Nat) : Prop where
 clu : ∃ qa qc nc cs h, Blk Fr w p (cluC qa qc m (.slice (some ⟨nb, 0, none⟩) 1 nc) cs (.pointer (some ⟨l, 0, none⟩)) h)
 nodes : ∃ rest, Blk Fr w nb (.pointer (some ⟨r, 0, none⟩) :: rest)
 mas : ∃ mb mn, Blk Fr w m (masC (some ⟨mb, 0, none⟩) mn true) ∧ RwIn memC 2 Fr w (some ⟨mb, 0, none⟩) [(0, 1)]
 rep : SatIn Fr [repH r (newR F0 0 false)] w
 lnk : Blk Fr w l (lnkC 4 lm)
 map : MapBlk Fr w intV intV lm ([] : List (Int × Int))
theorem CluIn.of {X : Cx} {p m r l lm nb : Nat} (h : CluIn X.Fr X.w0 p m r l lm nb) {Fr' : Nat → Prop} {w : World} {L : List HP} (hF : ∀ b, X.Fr b → Fr' b) (hw : St X L w) : CluIn Fr' w p m r l lm nb where
 clu := by obtain ⟨a, b, c, d, e, g⟩ := h.clu; exact ⟨a, b, c, d, e, g.of hF hw⟩
 nodes := by obtain ⟨a, g⟩ := h.nodes; exact ⟨a, g.of hF hw⟩
 mas := by obtain ⟨a, b, g, k⟩ := h.mas; exact ⟨a, b, g.of hF hw, k.of hF hw⟩
 rep := h.rep.of hF hw
 lnk := h.lnk.of hF hw
 map := ⟨hF _ h.map.fr, h.map.at_.loc (hw.keep.block _ h.map.fr)⟩
section
variable {p m r l lm nb : Nat}
theorem made_1 (h : CluIn Fr w p m r l lm nb) : Tri Tryz.prog 56 [.pointer (some ⟨p, 0, none⟩)] Fr w [] (fun v L => v = .bool true ∧ L = []) := by
 obtain ⟨_, _, _, _, _, h⟩ := h.clu
 refine TF 12 Tryz.func56 Z yj tabOk Z Z ?_
 refine xbj ?_
 refine VG (VY 5 true Z Z ?_)
 refine xer ?_
 exact xbl
theorem master_1 (h : CluIn Fr w p m r l lm nb) : Tri Tryz.prog 25 [.pointer (some ⟨p, 0, none⟩)] Fr w [] (fun v L => v = .pointer (some ⟨m, 0, none⟩) ∧ L = []) := by
 obtain ⟨_, _, _, _, _, hb⟩ := h.clu
 refine TF 10 Tryz.func25 Z yj tabOk Z Z ?_
 refine xbj ?_
 refine xet ?_
 refine zfj ?_
 refine xeu ?_
 exact CR (Ret.tmp 2 Z Z ER ⟨rfl, Z⟩)
theorem mmade_1 {a : Option Addr} {n : Nat} (h : Blk Fr w m (masC a n true)) : Tri Tryz.prog 57 [.pointer (some ⟨m, 0, none⟩)] Fr w [] (fun v L => v = .bool true ∧ L = []) := by
 refine TF 12 Tryz.func57 Z yj tabOk Z Z ?_
 refine xbj ?_
 refine VG (VY 5 true Z Z ?_)
 refine xer ?_
 exact xbl
theorem mcopied_spec {c : ChM} {a : Option Addr} {cap : Nat} (h : RwIn memC 2 Fr w a c.ms) (hl : c.ms.length ≤ 1000000) : Tri Tryz.prog 58 [.agg (c.cells a cap).toArray] Fr w []
  (fun v L => ∃ a' c', v = .agg (c.cells a' c').toArray ∧ L = [slH memT 2 a' c.ms.length c' (flat memC c.ms)]) := by
 refine TF 8 Tryz.func58 Z yj tabOk Z Z ?_
 refine CS (CG (VG (VB (vs := c.cells a cap) Z (fun b => VG (VO.alloc Z fun d => VG (VN ?_))))))
 refine xbv ?_
 refine xcy ?_
 refine VG (VO.append (m := c.ms.length) (news := flat memC c.ms) 0 Z Z Z Z Z Z Z (RwIn.row memC_len h) (flat_all memC_one _) yx yf fun a' c' _ => ?_)
 rw [Nat.zero_add, List.nil_append]
 refine xbf ?_
 refine VG (VO.st 2 (cs' := c.cells a' c') Z Z Z Z yy Z Z (VG (VN ?_)))
 refine CS (CG (VG (VL 2 (c.cells a' c') Z Z Z Z (VG (VT (vs := c.cells a' c') (cs' := c.cells a' c') 1 Z Z Z Z (NR _) Z Z Z (VG (VN ?_)))))))
 exact xcz
theorem mchain_1 (h : CluIn Fr w p m r l lm nb) : Tri Tryz.prog 26 [.pointer (some ⟨m, 0, none⟩)] Fr w [] (fun v L => ∃ a c, v = .agg ((firstC F0).cells a c).toArray ∧ L = [slH memT 2 a 1 c (memC (0, 1))]) := by
 obtain ⟨mb, mn, hb, hm⟩ := h.mas
 refine TF 12 Tryz.func26 Z yj tabOk Z Z ?_
 refine CS (CG (VG (VO.alloc Z fun d => ?_)))
 refine xbf ?_
 refine VG (VV (fun Fr w hF hs _ => mmade_1 Fr w (hb.of hF hs)) Z (VG (VN (VC.condF Z (CK ?_)))))
 refine xbf ?_
 refine VG (VD Z Z (RdL.blkA (ds := (firstC F0).cells (some ⟨mb, 0, none⟩) mn) hb Z) ?_)
 refine VG (VK (Lc := []) (fun Fr w hF hs _ => mcopied_spec (c := firstC F0) Fr w (hm.of hF hs) yk) Z Z ?_)
 rintro _ _ ⟨a', c', rfl, rfl⟩
 refine VG (VT (vs := (firstC F0).cells a' c') (cs' := (firstC F0).cells a' c') 1 Z Z Z Z (NR _) Z Z Z ?_)
 refine xbf ?_
 exact xcz
theorem up_1 (h : CluIn Fr w p m r l lm nb) {i : Int} (h0 : 0 ≤ i) : Tri Tryz.prog 59 [.pointer (some ⟨p, 0, none⟩), .int .i64 i] Fr w [] (fun v L => v = .int .i64 (if i = 0 then 0 else 4) ∧ L = []) := by
 obtain ⟨_, _, _, _, _, hb⟩ := h.clu
 obtain ⟨_, hn⟩ := h.nodes
 refine TF 26 Tryz.func59 Z yj tabOk Z Z ?_
 refine xbj ?_
 refine VG (VY 8 false Z (DF yf) ?_)
 refine xeu ?_
 refine CP (p := 1 ≤ i) Z (fun h1 => ?_) (fun h1 => ?_)
 ·refine xbj ?_
  rw [if_neg yf]
  exact xev
 obtain rfl : i = 0 := by omega
 refine xeu ?_
 refine xeq ?_
 refine xew ?_
 refine xbh ?_
 refine xbj ?_
 exact xev
theorem node_1 (h : CluIn Fr w p m r l lm nb) {i : Int} (h0 : 0 ≤ i) : Tri Tryz.prog 27 [.pointer (some ⟨p, 0, none⟩), .int .i64 i] Fr w [] (fun v L => v = (if i = 0 then .pointer (some ⟨r, 0, none⟩) else .pointer none) ∧ L = []) := by
 obtain ⟨_, _, _, _, _, hb⟩ := h.clu
 obtain ⟨_, hn⟩ := h.nodes
 refine TF 21 Tryz.func27 Z yj tabOk Z Z ?_
 refine xbj ?_
 refine xet ?_
 refine xbj ?_
 refine VG (VY 8 false Z Z ?_)
 refine xbj ?_
 refine VG (VV (fun Fr w hF hs _ => up_1 Fr w (h.of hF hs) h0) Z ?_)
 refine xbj ?_
 by_cases hi : i = 0
 ·subst hi
  rw [if_pos rfl, if_pos rfl]
  refine xbh ?_
  refine xeu ?_
  refine xeq ?_
  refine xew ?_
  exact xev
 ·rw [if_neg hi, if_neg hi]
  refine xbm ?_
  refine xbj ?_
  exact xev
theorem done_1 (h : CluIn Fr w p m r l lm nb) : Tri Tryz.prog 36 [.pointer (some ⟨p, 0, none⟩)] Fr w [] (fun v L => ∃ a c, v = .slice a 0 c ∧ L = [slH entT 7 a 0 c []]) := by
 obtain ⟨_, _, _, _, _, hb⟩ := h.clu
 refine TF 11 Tryz.func36 Z yj tabOk Z Z ?_
 refine xbj ?_
 refine xet ?_
 refine zfj ?_
 refine xeu ?_
 refine VO.ent (L' := [slH entT 7 none 0 0 []]) (Imp.slNil Imp.refl).ent ?_
 refine VG (VO.append (m := 0) (news := []) 0 Z Z Z Z Z Z Z RdRow.nil Z yk yk fun a c _ => ?_)
 refine xbj ?_
 exact CR (Ret.tmp 2 Z Z ER ⟨a, c, Z, Z⟩)
theorem links_1 (h : CluIn Fr w p m r l lm nb) : Tri Tryz.prog 37 [.pointer (some ⟨p, 0, none⟩)] Fr w [] (fun v L => ∃ l2 m2, v = .pointer (some ⟨l2, 0, none⟩) ∧ L = [pt l2 (lnkC 4 m2) lnkT, mapH intV intV m2 []]) := by
 obtain ⟨_, _, _, _, _, hb⟩ := h.clu
 refine TF 11 Tryz.func37 Z yj tabOk Z Z ?_
 refine xbj ?_
 refine xet ?_
 refine zfj ?_
 refine xeu ?_
 refine VG (VK (Lc := []) (fun Fr w hF hs _ => lcopy_spec Fr w (h.lnk.of hF hs) (h.of hF hs).map) Z Z ?_)
 rintro _ _ ⟨l2, m2, rfl, rfl⟩
 refine xbj ?_
 exact CR (Ret.tmp 2 Z Z ER ⟨l2, m2, Z, Z⟩)
theorem entries_0 {q : Nat} (h : SatIn Fr [logH q []] w) : Tri Tryz.prog 35 [.pointer (some ⟨q, 0, none⟩)] Fr w [] (fun v L => ∃ a c, v = .slice a 0 c ∧ L = [slH entT 7 a 0 c []]) := by
 obtain ⟨x, hx⟩ := LogIn.of h
 have hb := hx.blk
 refine TF 10 Tryz.func35 Z yj tabOk Z Z ?_
 refine xbj ?_
 refine VG (VV (fun Fr w hF hs _ => Lg.none_spec Fr w (hb.of hF hs)) Z ?_)
 refine zfj ?_
 refine xeu ?_
 refine VG (VK (Lc := []) (fun Fr w hF hs _ => cloneE_spec (l := []) Fr w RwIn.nil yk) Z Z ?_)
 rintro _ _ ⟨a, c, rfl, rfl⟩
 refine xbj ?_
 exact CR (Ret.tmp 2 Z Z ER ⟨a, c, Z, Z⟩)
end
end Au
namespace Au
open Go Vg T Api Kv Ch Lg Rd Conf Rep Sched Adm
attribute [local irreducible] VO VC VA
abbrev R0 : RepM := newR F0 0 false
theorem r0_ok : R0.Ok := newR_ok f0_fit 0 false
theorem r0_since : R0.since = 1 := by decide +kernel
theorem r0_done : R0.win.done = 0 := by decide +kernel
theorem r0_reads : (R0.rds.l.length : Int) = 0 := by decide +kernel
theorem r0_log : R0.log = [] := by decide +kernel
theorem r0_ch : R0.ch = firstC F0 := by decide +kernel
theorem r0_waits (n : Nat) (h : n < 4) : R0.adm.sch.lenM n = 0 := by
 rcases n with _ | _ | _ | _ | n
 ·decide +kernel
 ·decide +kernel
 ·decide +kernel
 ·decide +kernel
 ·omega
def x0 (done : Int) (n : Nat) (ma : Option Addr) (mc : Nat) (wa : Option Addr) (wc : Nat) (la : Option Addr) (lc : Nat) : AudR := ⟨⟨0, 1, done, 0, firstC F0, List.replicate n 0, []⟩, ma, mc, wa, wc, la, lc⟩
def v0 (x : AudR) (a : Option Addr) (c : Nat) (na : Option Addr) (nc : Nat) (da : Option Addr) (dc : Nat) : VwR := ⟨firstC F0, a, c, [x], na, nc, [], da, dc, [], none, 0⟩
theorem ints_snoc (n : Nat) : intCs (List.replicate (n + 1) 0) = intCs (List.replicate n 0) ++ [.int .i64 0] := by
 rw [List.replicate_succ']; simp [intCs]
theorem of_1 {p m r l lm nb : Nat} (h : CluIn Fr w p m r l lm nb) :
  Tri Tryz.prog 11 [.pointer (some ⟨p, 0, none⟩)] Fr w [] (fun v L => ∃ a c na nc ma mc wa wc la lc da dc, v = .agg (vwC (v0 (x0 0 (4) ma mc wa wc la lc) a c na nc da dc)).toArray ∧ L = [slH memT 2 a 1 c (memC (0, 1)), slH 61 9 na 1 nc (audC (x0 0 (4) ma mc wa wc la lc)), slH memT 2 ma 1 mc (memC (0, 1)), slH 3 1 wa (List.replicate (4) (0 : Int)).length wc (intCs (List.replicate (4) 0)), slH entT 7 la 0 lc [], slH entT 7 da 0 dc []]) := by
 refine TF 90 Tryz.func11 Z yj tabOk Z Z ?_
 refine CS (CG (VG (VO.alloc Z fun d => ?_)))
 refine xbj ?_
 refine VG (VV (fun Fr w hF hs _ => master_1 Fr w (h.of hF hs)) Z ?_)
 refine zfj ?_
 refine xbj ?_
 refine VG (VV (fun Fr w hF hs _ => master_1 Fr w (h.of hF hs)) Z ?_)
 refine VG (VK (Lc := []) (fun Fr w hF hs _ => mchain_1 Fr w (h.of hF hs)) Z Z ?_)
 rintro _ _ ⟨a, c, rfl, rfl⟩
 refine xdo ?_
 refine VG (VT (vs := (firstC F0).cells a c) (cs' := [.int .i64 1, .slice a 1 c, .int .i64 (-1), .slice none 0 0, .slice none 0 0, .slice none 0 0]) 1 Z Z Z Z (by show 0 + 3 ≤ 6; omega) Z Z Z ?_)
 refine xcd ?_
 refine CN (L' := [pt d [.int .i64 1, .slice a 1 c, .int .i64 (-1), .slice none 0 0, .slice none 0 0, .slice none 0 0] 32, slH memT 2 a 1 c (memC (0, 1))]) (pkZ [1, 0]).ent ?_
 refine xdo ?_
 refine VC.loop (σ := Nat × Option ((Option Addr × Nat) × (Option Addr × Nat) × (Option Addr × Nat) × (Option Addr × Nat))) (fun s => [(0, pV p), (2, pV d), (3, .int .i64 s.1)]) (fun s => match s.2 with | none => [pt d [.int .i64 1, .slice a 1 c, .int .i64 (-1), .slice none 0 0, .slice none 0 0, .slice none 0 0] 32, slH memT 2 a 1 c (memC (0, 1))] | some ((na, nc), (ma, mc), (wa, wc), (la, lc)) => [pt d [.int .i64 1, .slice a 1 c, .int .i64 (-1), .slice na 1 nc, .slice none 0 0, .slice none 0 0] 32, slH memT 2 a 1 c (memC (0, 1)), slH 61 9 na 1 nc (audC (x0 0 (4) ma mc wa wc la lc)), slH memT 2 ma 1 mc (memC (0, 1)), slH 3 1 wa (List.replicate (4) (0 : Int)).length wc (intCs (List.replicate (4) 0)), slH entT 7 la 0 lc []]) (fun s => s.1 ≤ 6 ∧ (s.1 = 0 ↔ s.2 = none)) (fun s => 6 - s.1) (0, none)
  ⟨by decide, by simp⟩ sbZ ER ?_
 rintro ⟨i, s⟩ ⟨hi, hs0⟩
 dsimp only at hi hs0 ⊢
 refine xdo ?_
 refine CP (p := (i : Int) < 6) Z (fun h2 => CK ?_) (fun h2 => CX ?_)
 ·refine CS (VC.block (CS (CG ?_)))
  refine xdo ?_
  by_cases hi0 : i = 0
  rotate_left
  ·obtain ⟨x, rfl⟩ : ∃ x, s = some x := by
    cases s with
    | none => exact absurd (hs0.2 rfl) hi0
    | some x => exact ⟨x, rfl⟩
   refine VG (VV (fun Fr w hF hs _ => by have := node_1 Fr w (h.of hF hs) (i := (i : Int)) yf; rw [if_neg yf] at this; exact this) Z ?_)
   refine xdo ?_
   refine VC.condT Z (CX ?_)
   refine zff ?_
   exact ⟨(i + 1, some x), ⟨by dsimp only; omega, by simp⟩, by dsimp only; omega, sbZ, ER⟩
  subst hi0
  obtain rfl := hs0.1 rfl
  show VO _ _ _ _ _ [pt d [.int .i64 1, .slice a 1 c, .int .i64 (-1), .slice none 0 0, .slice none 0 0, .slice none 0 0] 32, slH memT 2 a 1 c (memC (0, 1))] _
  refine VG (VV (fun Fr w hF hs _ => by have := node_1 Fr w (h.of hF hs) (i := ((0 : Nat) : Int)) yf; rw [if_pos yf] at this; exact this) Z ?_)
  refine xdo ?_
  refine xbh ?_
  refine xdo ?_
  refine VG (VV (fun Fr w hF hs _ => by have := rsince_spec Fr w (h.of hF hs).rep; rw [r0_since] at this; exact this) Z ?_)
  refine xdo ?_
  refine VG (VK (Lc := []) (fun Fr w hF hs _ => window_spec Fr w r0_ok (h.of hF hs).rep) Z Z ?_)
  rintro _ _ ⟨wq, rfl, rfl⟩
  refine xdo ?_
  refine VG (VV (fun Fr w hF hs hS => by have := Win.done_spec Fr w (W := R0.win) (hS.blk 0 Z) r0_ok.win.cap0; rw [r0_done] at this; exact this) Z ?_)
  refine xdo ?_
  refine VG (VV (fun Fr w hF hs _ => by have := reading_spec Fr w r0_ok (h.of hF hs).rep; rw [r0_reads] at this; exact this) Z ?_)
  refine xdo ?_
  refine VG (VK (Lc := []) (fun Fr w hF hs _ => by have := chain_spec Fr w r0_ok (h.of hF hs).rep; rw [r0_ch] at this; exact this) Z Z ?_)
  rintro _ _ ⟨ma, mc, rfl, rfl⟩
  refine VG (VI (LB (pv := [(0, .int .i64 0), (1, .int .i64 1), (2, .int .i64 0), (3, .int .i64 0), (4, .agg ((firstC F0).cells ma mc).toArray)]) (audC (x0 0 (0) ma mc none 0 none 0)) Z Z Z yj Z) ?_)
  refine VG (VO.alloc Z fun b5 => ?_)
  refine VG (VT (vs := audC (x0 0 (0) ma mc none 0 none 0)) (cs' := audC (x0 0 (0) ma mc none 0 none 0)) 0 Z Z Z Z (NR _) Z Z Z ?_)
  refine xcd ?_
  refine CN (L' := slH 3 1 none 0 0 [] :: [pt b5 (audC (x0 0 (0) ma mc none 0 none 0)) 61, pt d [.int .i64 1, .slice a 1 c, .int .i64 (-1), .slice none 0 0, .slice none 0 0, .slice none 0 0] 32, slH memT 2 a 1 c (memC (0, 1)), slH memT 2 ma 1 mc (memC (0, 1))]) (Imp.slNil (pkZ [0, 2, 2, 0])).ent ?_
  refine xdo ?_
  refine VC.loop (σ := Nat × Option Addr × Nat) (fun t => [(0, pV p), (2, pV d), (3, .int .i64 0), (4, pV r), (5, pV b5), (6, .int .i64 t.1)]) (fun t => [slH 3 1 t.2.1 (List.replicate (t.1) (0 : Int)).length t.2.2 (intCs (List.replicate (t.1) 0)), pt b5 (audC (x0 0 (t.1) ma mc t.2.1 t.2.2 none 0)) 61, pt d [.int .i64 1, .slice a 1 c, .int .i64 (-1), .slice none 0 0, .slice none 0 0, .slice none 0 0] 32, slH memT 2 a 1 c (memC (0, 1)), slH memT 2 ma 1 mc (memC (0, 1))]) (fun t => t.1 ≤ 4) (fun t => 4 - t.1) (0, none, 0)
   yk sbZ ER ?_
  rintro ⟨n, wa, wc⟩ hn
  dsimp only at hn ⊢
  refine xdo ?_
  refine CP (p := (n : Int) < 4) Z (fun h3 => CK ?_) (fun h3 => CX ?_)
  ·have hwl : (x0 0 n ma mc wa wc none 0).n.waits.length = n := List.length_replicate ..
   refine xca ?_
   refine CD (ts 0 4 (.only 4 (.only 5 (.only 6 (.take 7 (.only 8 .nil)))))) yj yl ?_
   refine xei ?_
   refine AG (AR (fun Fr w hF hs hS => by have := waiting_spec Fr w (h.of hF hs).rep (n : Int); rw [r0_waits n yf] at this; exact this) Z Z yaq ?_)
   refine AG (AO (OpT.buildSlice (n := 1) (pv := [(0, .int .i64 0)]) (cells := [.int .i64 0]) rfl rfl rfl rfl yk (fill_one rfl rfl rfl)) rfl (fun v L' g => by obtain ⟨nb, rfl, rfl⟩ := g; exact yar) ?_)
   rintro v L' ⟨q, rfl, rfl⟩
   refine AG (AO (OpT.append (m := 1) (news := [.int .i64 0]) 1 rfl rfl rfl rfl rfl rfl rfl (RdRow.pt 0 rfl rfl rfl) rfl (by rw [hwl]; exact small_bytes (k := 100) yf yk) (by rw [hwl]; omega)) rfl (fun v L' g => by obtain ⟨a2, c2, rfl, hc2, rfl⟩ := g; exact yar) ?_)
   rintro v L' ⟨a2, c2, rfl, hc2, rfl⟩
   refine xeh ?_
   refine AG (VA.st 2 (cs' := audC (x0 0 (n + 1) ma mc a2 c2 none 0)) Z Z Z Z Z (by show 7 < 9; omega) Z Z yaq ?_)
   refine xdm ?_
   rw [← ints_snoc]
   refine zff ?_
   exact ⟨(n + 1, a2, c2), by dsimp only; omega, by dsimp only; omega, sbZ, (pkZ [0, 1, 1, 1, 1]).ent⟩
  obtain rfl : n = 4 := by omega
  refine xdo ?_
  refine VG (VK (Lc := []) (fun Fr w hF hs _ => by have := log_spec Fr w r0_ok (h.of hF hs).rep; rw [r0_log] at this; exact this) Z Z ?_)
  rintro _ _ ⟨lq, rfl, rfl⟩
  refine VG (VK (Lc := []) (fun Fr w hF hs hS => entries_0 Fr w (hS.at_ 0 Z)) Z Z ?_)
  rintro _ _ ⟨la, lc, rfl, rfl⟩
  refine xdo ?_
  refine VG (VO.st 3 (cs' := audC (x0 0 (4) ma mc wa wc la lc)) Z Z Z Z (by show 8 < 9; omega) Z Z ?_)
  (repeat (first|refine zS ?_|refine zR ?_|refine zB ?_|refine zL ?_|refine zC ?_|refine zG (zN ?_)|refine zG (zD 0 rfl rfl rfl rfl ?_)|refine zG (zD 1 rfl rfl rfl rfl ?_)|refine zG (zD 2 rfl rfl rfl rfl ?_)|refine zG (zD 3 rfl rfl rfl rfl ?_)|refine zG (zD 4 rfl rfl rfl rfl ?_)|refine zG (zU rfl rfl rfl ?_)))
  refine VG (VL 3 (audC (x0 0 (4) ma mc wa wc la lc)) Z Z Z Z ?_)
  refine VO.ent (L' := slH 61 9 none 0 0 [] :: [slH entT 7 la 0 lc [], slH 3 1 wa (List.replicate (4) (0 : Int)).length wc (intCs (List.replicate (4) 0)), pt d [.int .i64 1, .slice a 1 c, .int .i64 (-1), .slice none 0 0, .slice none 0 0, .slice none 0 0] 32, slH memT 2 a 1 c (memC (0, 1)), slH memT 2 ma 1 mc (memC (0, 1))]) (Imp.slNil (pkZ [0, 1, 2, 2, 2])).ent ?_
  refine VG (VO.buildSlice (n := 1) (pv := [(0, .agg (audC (x0 0 (4) ma mc wa wc la lc)).toArray)]) (audC (x0 0 (4) ma mc wa wc la lc)) Z Z Z Z yk (fill_one Z Z Z) fun nb => ?_)
  refine VG (VO.append (m := 1) (news := audC (x0 0 (4) ma mc wa wc la lc)) 1 Z Z Z Z Z Z Z (RdRow.pt 0 Z Z Z) Z yk yk fun na nc _ => ?_)
  refine xdo ?_
  refine VG (VO.st 4 (cs' := [.int .i64 1, .slice a 1 c, .int .i64 (-1), .slice na 1 nc, .slice none 0 0, .slice none 0 0]) Z Z Z Z (by show 3 < 6; omega) Z Z ?_)
  refine zff ?_
  exact ⟨(1, some ((na, nc), (ma, mc), (wa, wc), (la, lc))), ⟨by dsimp only; omega, by simp⟩, by dsimp only; omega, sbZ, (pkZ [4, 4, 0, 3, 2, 1]).ent⟩
 obtain ⟨⟨⟨na, nc⟩, ⟨ma, mc⟩, ⟨wa, wc⟩, ⟨la, lc⟩⟩, rfl⟩ : ∃ x, s = some x := by
  cases s with
  | none => have := hs0.2 rfl; omega
  | some x => exact ⟨x, rfl⟩
 dsimp only
 refine xdo ?_
 refine VG (VK (Lc := []) (fun Fr w hF hs _ => done_1 Fr w (h.of hF hs)) Z Z ?_)
 rintro _ _ ⟨da, dc, rfl, rfl⟩
 refine xdo ?_
 refine VG (VO.st 1 (cs' := [.int .i64 1, .slice a 1 c, .int .i64 (-1), .slice na 1 nc, .slice da 0 dc, .slice none 0 0]) Z Z Z Z (by show 4 < 6; omega) Z Z ?_)
 refine xdo ?_
 refine VG (VK (Lc := []) (fun Fr w hF hs _ => links_1 Fr w (h.of hF hs)) Z Z ?_)
 rintro _ _ ⟨l2, m2, rfl, rfl⟩
 refine xdo ?_
 refine VG (VV (fun Fr w hF hs hS => pairs_spec Fr w (hS.blk 0 Z) (hS.mapBlk 1 Z)) Z ?_)
 refine xdo ?_
 refine VC.loop (σ := Unit) (fun _ => [(2, pV d), (67, .int .i64 0), (68, .int .i64 0)]) (fun _ => [pt d [.int .i64 1, .slice a 1 c, .int .i64 (-1), .slice na 1 nc, .slice da 0 dc, .slice none 0 0] 32, slH memT 2 a 1 c (memC (0, 1)), slH 61 9 na 1 nc (audC (x0 0 (4) ma mc wa wc la lc)), slH memT 2 ma 1 mc (memC (0, 1)), slH 3 1 wa (List.replicate (4) (0 : Int)).length wc (intCs (List.replicate (4) 0)), slH entT 7 la 0 lc [], slH entT 7 da 0 dc []]) (fun _ => True) (fun _ => 0) () trivial sbZ (pkZ [3, 3, 3, 3, 3, 3, 2]).ent ?_
 rintro _ -
 refine xdo ?_
 refine xdn ?_
 refine xdo ?_
 refine VG (VL 0 [.int .i64 1, .slice a 1 c, .int .i64 (-1), .slice na 1 nc, .slice da 0 dc, .slice none 0 0] Z Z Z Z ?_)
 refine VG (VT (vs := [.int .i64 1, .slice a 1 c, .int .i64 (-1), .slice na 1 nc, .slice da 0 dc, .slice none 0 0]) (cs' := [.int .i64 1, .slice a 1 c, .int .i64 (-1), .slice na 1 nc, .slice da 0 dc, .slice none 0 0]) 0 Z Z Z Z (NR _) Z Z Z ?_)
 refine xdo ?_
 exact CR (Ret.cell 2 Z Z Z (RdL.many 0 Z Z) (IP 1 Z (IP 1 Z (IP 1 Z (IP 1 Z (IP 1 Z (IP 1 Z (Imp.nil))))))).ent ⟨a, c, na, nc, ma, mc, wa, wc, la, lc, da, dc, Z, Z⟩)
end Au
namespace LibC
open Go Vg T Go.Shelf
def TabF (Fr : Nat → Prop) (w : World) : Prop := TabIn Tryz.prog Fr w "internal/strconv.uint64pow10" .u64 Lib.pow10Tab
theorem TabF.st {X : Cx} {L : List HP} (hP : X.P = Tryz.prog) (h : TabF X.Fr X.w0) {Fr' : Nat → Prop} {w : World} (hF : ∀ b, X.Fr b → Fr' b) (hw : St X L w) : TabF Fr' w := TabIn.keep h hF hw.keep
theorem call_itoa : Callable Tryz.prog 40 := ⟨_, Tryz.func40, by kernel_rfl, by kernel_rfl⟩
def numT (n : Int) : ByteArray := ⟨(Lib.itoa n).toArray⟩
theorem itoa_spec (n : Int) (h0 : -9223372036854775808 ≤ n) (h1 : n ≤ 9223372036854775807) (ht : TabF Fr w) :
  Tri Tryz.prog 40 [.int .i64 n] Fr w [] (fun v L => v = .string (numT n) ∧ L = []) :=
 Tri.of_grow call_itoa (Any.strconv_Itoa Tryz.laysM171 n h0 h1 w ht.is)
end LibC
namespace Au
open Go Vg T Api LibC
attribute [local irreducible] VO VC VA
def wordB : Nat → List UInt8
 | 1 => [99, 104, 97, 105, 110]
 | 2 => [101, 112, 111, 99, 104]
 | 3 => [97, 104, 101, 97, 100]
 | 4 => [100, 111, 110, 101]
 | 5 => [111, 114, 100, 101, 114]
 | 6 => [108, 111, 103]
 | 7 => [113, 117, 101, 117, 101]
 | 8 => [114, 101, 97, 100, 115]
 | 9 => [109, 97, 105, 108]
 | _ => []
def wordT (n : Nat) : ByteArray := ⟨(wordB n).toArray⟩
def wordsL : List Value := (List.range 10).map fun n => .string (wordT n)
def WordsF (Fr : Nat → Prop) (w : World) : Prop := Blk Fr w 0 wordsL
theorem WordsF.st {X : Cx} {L : List HP} (h : WordsF X.Fr X.w0) {Fr' : Nat → Prop} {w : World} (hF : ∀ b, X.Fr b → Fr' b) (hw : St X L w) : WordsF Fr' w := Blk.of h hF hw
theorem words_at {n : Nat} (h : n < 10) : wordsL[0 + n * 1]? = some (.string (wordT n)) := by
 rw [Nat.zero_add, Nat.mul_one]
 unfold wordsL
 rw [List.getElem?_map, List.getElem?_range h]; rfl
theorem word_len (n : Nat) : (wordT n).size ≤ 5 := by
 unfold wordT wordB
 split <;> decide
def textM (f : FindM) : ByteArray := if 1 ≤ f.1 ∧ f.1 ≤ 9 then wordT f.1.toNat ++ ⟨#[32]⟩ ++ numT f.2.1 ++ ⟨#[32]⟩ ++ numT f.2.2 else ⟨#[]⟩
def i64B (n : Int) : Prop := -9223372036854775808 ≤ n ∧ n ≤ 9223372036854775807
theorem num_size {n : Int} (h : i64B n) : (numT n).size ≤ 21 := by
 have := Lib.itoa_length_le n h.1 h.2
 show (Lib.itoa n).toArray.size ≤ 21
 rw [List.size_toArray]; omega
theorem text_spec (f : FindM) (h1 : i64B f.2.1) (h2 : i64B f.2.2) (hT : TabF Fr w) (hW : WordsF Fr w) :
  Tri Tryz.prog 12 [.agg (fdC f).toArray] Fr w [] (fun v L => v = .string (textM f) ∧ L = []) := by
 refine TF 25 Tryz.func12 Z yj tabOk Z Z ?_
 refine CS (CG (VG (VB (vs := fdC f) Z fun b1 => VG (VN ?_))))
 refine CS (CS ?_)
 refine VC.meetS (σ := Bool) (fun b => [(1, pV b1), (10, .bool b)]) (fun _ => [pt b1 (fdC f) 45]) (fun b => b = true ↔ ¬ (1 ≤ f.1 ∧ f.1 ≤ 9)) ?_ ?_
 ·refine CG ?_
  refine xbj ?_
  by_cases g1 : f.1 < 1
  ·refine VG (VY 6 true Z (DT g1) ?_)
   refine xbj ?_
   exact ⟨true, ⟨fun _ => by omega, fun _ => rfl⟩, sbZ, ER⟩
  ·refine VG (VY 6 false Z (DF g1) ?_)
   refine xbj ?_
   exact ⟨decide (9 < f.1), ⟨fun h => by have := of_decide_eq_true h; omega, fun h => DT yf⟩, sbZ, ER⟩
 rintro b hb
 refine CC Z (fun hbt => ?_) (fun hbf => CK ?_)
 ·rw [show textM f = ⟨#[]⟩ from if_neg (hb.1 hbt)]
  refine xbj ?_
  exact xes
 have hc : 1 ≤ f.1 ∧ f.1 ≤ 9 := Classical.byContradiction fun h => by rw [hb.2 h] at hbf; cases hbf
 rw [show textM f = wordT f.1.toNat ++ ⟨#[32]⟩ ++ numT f.2.1 ++ ⟨#[32]⟩ ++ numT f.2.2 from if_pos hc]
 obtain ⟨n, hn⟩ : ∃ n : Nat, f.1 = n := ⟨f.1.toNat, by omega⟩
 have hn2 : f.1.toNat = n := by omega
 rw [hn2]
 have hn3 : n < 10 := by omega
 have s0 := word_len n
 have s1 := num_size h1
 have s2 := num_size h2
 have e1 : (wordT n ++ (⟨#[32]⟩ : ByteArray)).size = (wordT n).size + 1 := by rw [ByteArray.size_append]; rfl
 have e2 : (wordT n ++ (⟨#[32]⟩ : ByteArray) ++ numT f.2.1).size = (wordT n).size + 1 + (numT f.2.1).size := by rw [ByteArray.size_append, e1]
 have e3 : (wordT n ++ (⟨#[32]⟩ : ByteArray) ++ numT f.2.1 ++ ⟨#[32]⟩).size = (wordT n).size + 1 + (numT f.2.1).size + 1 := by rw [ByteArray.size_append, e2]; rfl
 refine CS (CD (ts 0 7 (ts 10 2 (.only 7 (ts 8 2 (.only 12 (ts 13 2 .nil)))))) yj yl ?_)
 refine xex ?_
 refine AG (AI Z (light_idxA n Z (by show some (Value.int .i64 f.1) = _; rw [hn]) Z Z Z Z yf) ?_)
 refine AG (VA.load Z Z Z (RdL.blk hW (words_at hn3)) ?_)
 refine AG (AI Z (light_cat Z Z (by show (wordT n).size + 1 ≤ _; omega)) ?_)
 refine xex ?_
 refine AG (AR (fun Fr w hF hs _ => itoa_spec Fr w f.2.1 h1.1 h1.2 (TabF.st Z hT hF hs)) Z Z yat ?_)
 refine AG (AI Z (light_cat Z Z (by rw [e1]; omega)) ?_)
 refine AG (AI Z (light_cat Z Z (by rw [e2]; show _ + 1 ≤ _; omega)) ?_)
 refine AG (AR (fun Fr w hF hs _ => itoa_spec Fr w f.2.2 h2.1 h2.2 (TabF.st Z hT hF hs)) Z Z yat ?_)
 refine AG (AI Z (light_cat Z Z (by rw [e3]; omega)) ?_)
 refine xdm ?_
 exact xes
end Au
namespace Au
open Go Vg T Api Kv Ch Lg Rd Conf Rep Sched Adm LibC
attribute [local irreducible] VO VC VA
theorem guardFd : Tryz.prog.eqGuardType Tryz.prog.depth 45 = false := by kernel_rfl
theorem aud0 : audM F0 ⟨firstC F0, [⟨0, 1, 0, 0, firstC F0, List.replicate 4 0, []⟩], [], []⟩ = [] := by decide +kernel
theorem aud1 : audM F0 ⟨firstC F0, [⟨0, 1, 1, 0, firstC F0, List.replicate 4 0, []⟩], [], []⟩ = [((4, 0, 1) : FindM)] := by decide +kernel
theorem txt1 : textM (4, 0, 1) = ⟨#[100, 111, 110, 101, 32, 48, 32, 49]⟩ := by decide +kernel
theorem txt2 : textM (0, 0, 0) = ⟨#[]⟩ := by decide +kernel
theorem txt3 : textM (9, 16, -1) = ⟨#[109, 97, 105, 108, 32, 49, 54, 32, 45, 49]⟩ := by decide +kernel
theorem stoodFd : Tryz.prog.stoodInHeld 45 = false := by kernel_rfl
def fdEqB (a b : FindM) : Bool := decide (a.1 = b.1) && (decide (a.2.1 = b.2.1) && (decide (a.2.2 = b.2.2) && true))
theorem fdEqB_iff (a b : FindM) : fdEqB a b = true ↔ a = b := by
 obtain ⟨a1, a2, a3⟩ := a; obtain ⟨b1, b2, b3⟩ := b
 simp [fdEqB]
theorem fd_eq (a b : FindM) (w : World) : (Op.equal 45 (.agg (fdC a).toArray) (.agg (fdC b).toArray)).run Tryz.prog w = .ok (fdEqB a b) w := by
 have hi : ∀ (cs : List Value) (j : Nat) (n : Int), cs[j]? = some (.int .i64 n) → ∀ w : World, (part 3 cs.toArray j).run Tryz.prog w = .ok (.int .i64 n) w := fun cs j n h w => part1 (TabOk.look tabOk (t := 3) (ti := T.t3) rfl) rfl h w
 refine EqT.run (EqT.st Tryz.underlying45 stoodFd (EqFs.cons yk (hi _ _ _ Z) (hi _ _ _ Z) (EqT.int Tryz.underlying3 a.1 b.1) (EqFs.cons yk (hi _ _ _ Z) (hi _ _ _ Z) (EqT.int Tryz.underlying3 a.2.1 b.2.1) (EqFs.cons yk (hi _ _ _ Z) (hi _ _ _ Z) (EqT.int Tryz.underlying3 a.2.2 b.2.2) EqFs.nil)))) yk w
theorem quiet_spec (hT : TabF Fr w) (hW : WordsF Fr w) : Tri Tryz.prog 6 [] Fr w [] (fun v L => v = .bool true ∧ L = []) := by
 refine TF 64 Tryz.func6 Z yj tabOk Z Z ?_
 refine xdo ?_
 refine VG (VI (LB (pv := []) (Z0.cells none 0) Z Z Z yj Z) ?_)
 refine VG (VK (Lc := []) (fun Fr w _ _ _ => by have := rfit_spec Fr w Z0 none 0 ⟨fun h => absurd Z h⟩; rw [f0_of] at this; exact this) Z Z ?_)
 rintro _ _ ⟨qa, qc, _, hqc, rfl, rfl⟩
 refine xdo ?_
 refine VG (VO.alloc Z fun b1 => ?_)
 refine VG (VT (vs := F0.cells qa qc) (cs' := F0.cells qa qc) 0 Z Z Z Z (NR _) Z Z Z ?_)
 refine xdo ?_
 refine VG (VL 0 (F0.cells qa qc) Z Z Z Z ?_)
 refine VG (VK (Lc := []) (fun Fr w _ _ hS => clnew_spec Fr w (ints_sl (hS.at_ 1 Z)) hqc) Z Z ?_)
 rintro _ _ ⟨p, qa2, qc2, m, mb, mn, mrest, h, l, lm, ns, nsc, r, ca, cc, x, k, rfl, rfl⟩
 refine VO.opn 7 Z (HOpn.one (c := fun v : Value => [v]) 80 ns nsc (.pointer (some ⟨r, 0, none⟩))) ?_
 rintro ⟨nb, nrest⟩ rfl
 refine xdo ?_
 refine VG (VK (Lc := []) (fun Fr w _ _ hS => of_1 (p := p) (m := m) (r := r) (l := l) (lm := lm) (nb := nb) Fr w ⟨⟨qa2, qc2, nsc, _, h, hS.blk 1 Z⟩, ⟨nrest, hS.blk 0 Z⟩, ⟨mb, mn, hS.blk 6 Z, rw_one memC_len (hS.blk 7 Z)⟩, hS.at_ 8 Z, hS.blk 3 Z, hS.mapBlk 4 Z⟩) Z Z ?_)
 rintro _ _ ⟨a, c, na, nc, ma, mc, wa, wc, la, lc, da, dc, rfl, rfl⟩
 refine xdo ?_
 refine VG (VO.alloc Z fun b4 => ?_)
 refine VG (VT (vs := vwC (v0 (x0 0 4 ma mc wa wc la lc) a c na nc da dc)) (cs' := vwC (v0 (x0 0 4 ma mc wa wc la lc) a c na nc da dc)) 0 Z Z Z Z (NR _) Z Z Z ?_)
 refine xcd ?_
 refine CN (L' := [pt b4 (vwC (v0 (x0 0 4 ma mc wa wc la lc) a c na nc da dc)) 32, slH memT 2 a 1 c (memC (0, 1)), slH 61 9 na 1 nc (audC (x0 0 4 ma mc wa wc la lc)), slH memT 2 ma 1 mc (memC (0, 1)), slH 3 1 wa (List.replicate 4 (0 : Int)).length wc (intCs (List.replicate 4 0)), slH entT 7 la 0 lc [], slH entT 7 da 0 dc [], pt b1 (F0.cells qa qc) confT, intH qa qc [96]]) (pkZ [0, 0, 0, 0, 0, 0, 0, 12, 12]).ent ?_
 refine xdo ?_
 refine VG (VY 17 false Z Z ?_)
 refine VG (VL 7 (F0.cells qa qc) Z Z Z Z ?_)
 refine VG (VL 0 (vwC (v0 (x0 0 4 ma mc wa wc la lc) a c na nc da dc)) Z Z Z Z ?_)
 refine VG (VK (Lc := []) (fun Fr w _ _ hS => by
  have := check_spec Fr w (c := F0) (ints_sl (hS.at_ 8 rfl)) trivial hqc (V := (v0 (x0 0 4 ma mc wa wc la lc) a c na nc da dc)) ⟨RwIn.slH memC_len (hS.at_ 1 rfl), RwIn.slH audC_len (hS.at_ 2 rfl), fun y hy => by
   obtain rfl := List.mem_singleton.1 hy
   exact ⟨RwIn.slH memC_len (hS.at_ 3 Z), ints_sl (hS.at_ 4 Z), RwIn.nil, by show 1 ≤ 1000; decide, by show (List.replicate 4 (0 : Int)).length ≤ 1000; decide, Nat.zero_le _⟩, RwIn.nil, RwIn.nil, by show 1 ≤ 1000; decide, by show 1 ≤ 1000; decide, Nat.zero_le _, Nat.zero_le _⟩
  rw [show audM F0 (VwR.v (v0 (x0 0 4 ma mc wa wc la lc) a c na nc da dc)) = [] from aud0] at this
  exact this) Z Z ?_)
 rintro _ _ ⟨fa, fc, rfl, rfl⟩
 refine xbj ?_
 refine VG (VY 24 false Z Z ?_)
 refine zft ?_
 refine xbz ?_
 refine VO.opn 3 Z (HOpn.one (c := audC) (n := 9) 61 na nc (x0 0 4 ma mc wa wc la lc)) ?_
 rintro ⟨xb, xr⟩ rfl
 refine xey ?_
 refine xdo ?_
 refine VG (VO.st 0 (cs' := audC (x0 1 4 ma mc wa wc la lc) ++ xr) Z Z Z Z (by show 2 < (audC _ ++ xr).length; rw [List.length_append, audC_len]; omega) Z Z ?_)
 refine xdo ?_
 refine VG (VL 8 (F0.cells qa qc) Z Z Z Z ?_)
 refine VG (VL 2 (vwC (v0 (x0 1 4 ma mc wa wc la lc) a c (some ⟨xb, 0, none⟩) nc da dc)) Z Z Z Z ?_)
 refine VG (VK (Lc := []) (fun Fr w _ _ hS => by
  have := check_spec Fr w (c := F0) (ints_sl (hS.at_ 9 rfl)) trivial hqc (V := (v0 (x0 1 4 ma mc wa wc la lc) a c (some ⟨xb, 0, none⟩) nc da dc)) ⟨RwIn.slH memC_len (hS.at_ 3 rfl), rw_one audC_len (hS.blk 0 rfl), fun y hy => by
   obtain rfl := List.mem_singleton.1 hy
   exact ⟨RwIn.slH memC_len (hS.at_ 4 Z), ints_sl (hS.at_ 5 Z), RwIn.nil, by show 1 ≤ 1000; decide, by show (List.replicate 4 (0 : Int)).length ≤ 1000; decide, Nat.zero_le _⟩, RwIn.nil, RwIn.nil, by show 1 ≤ 1000; decide, by show 1 ≤ 1000; decide, Nat.zero_le _, Nat.zero_le _⟩
  rw [show audM F0 (VwR.v (v0 (x0 1 4 ma mc wa wc la lc) a c (some ⟨xb, 0, none⟩) nc da dc)) = [((4, 0, 1) : FindM)] from aud1] at this
  exact this) Z Z ?_)
 rintro _ _ ⟨ga, gc, rfl, rfl⟩
 refine VO.opn 0 Z (HOpn.one (c := fdC) (n := 3) 45 ga gc (4, 0, 1)) ?_
 rintro ⟨lb, lr⟩ rfl
 refine xdo ?_
 refine VG (VY 40 true Z Z ?_)
 refine xdo ?_
 refine xey ?_
 refine VG (VL 0 (fdC (4, 0, 1)) Z Z Z Z ?_)
 refine VG (VI (LB (pv := [(0, .int .i64 4), (1, .int .i64 0), (2, .int .i64 1)]) (fdC (4, 0, 1)) Z Z Z Z Z) ?_)
 refine VG (VI (light_eqS guardFd Z Z (fd_eq (4, 0, 1) (4, 0, 1))) ?_)
 refine xdo ?_
 refine VG (VY 47 true Z Z ?_)
 refine xdo ?_
 refine xey ?_
 refine VG (VL 0 (fdC (4, 0, 1)) Z Z Z Z ?_)
 refine VG (VV (fun Fr w hF hs _ => by have := text_spec Fr w (4, 0, 1) yav yav (TabF.st Z hT hF hs) (WordsF.st hW hF hs); rw [txt1] at this; exact this) Z ?_)
 refine xdo ?_
 refine VG (VY 54 true Z yl ?_)
 refine xdo ?_
 refine VG (VI (LB (pv := []) (fdC (0, 0, 0)) Z Z Z Z Z) ?_)
 refine VG (VV (fun Fr w hF hs _ => by have := text_spec Fr w (0, 0, 0) yav yav (TabF.st Z hT hF hs) (WordsF.st hW hF hs); rw [txt2] at this; exact this) Z ?_)
 refine xdo ?_
 refine VG (VY 59 true Z yl ?_)
 refine xdo ?_
 refine VG (VI (LB (pv := [(0, .int .i64 9), (1, .int .i64 16), (2, .int .i64 (-1))]) (fdC (9, 16, -1)) Z Z Z Z Z) ?_)
 refine VG (VV (fun Fr w hF hs _ => by have := text_spec Fr w (9, 16, -1) yav yav (TabF.st Z hT hF hs) (WordsF.st hW hF hs); rw [txt3] at this; exact this) Z ?_)
 refine xdo ?_
 exact CR (Ret.bool 0 Z Z yl Imp.nil.ent ⟨rfl, Z⟩)
end Au
namespace Vg
open Go Go.ChangeShapes Go.WideShapes Go.ChangeAt Go.RowKit
theorem trodAll_below {H : Type} {enc : TypeId × Value → H} {P : Program} (hl : laidOutB P = true) {W W' : World} (hb : Below W.heap.size W W') :
  ∀ {ts : List TypeId} {vs : List Value} {ds : List (DataW H)} {ps : List MemPlace}, (∀ t ∈ ts, P.readableRec t = true ∧ t < P.types.size) →
   DataW.TrodAll enc P W 0 (fun _ => true) true ts vs ds ps → DataW.TrodAll enc P W' 0 (fun b => decide (b < W.heap.size)) true ts vs ds ps
 | [], vs, ds, ps, _, h => by
  obtain ⟨rfl, rfl, rfl⟩ := trodAll_nil h
  exact trodAll_mk0
 | t :: ts, vs, ds, ps, ht, h => by
  obtain ⟨v, vs', d, ds', p, q, rfl, rfl, rfl, h0, r0⟩ := trodAll_cons h
  have lt0 : ∀ x ∈ p, x.block < W.heap.size := by obtain ⟨m, hm⟩ := h0; exact DataW.trod_lt m _ _ _ hm
  have h1 := ht t yb
  exact trodAll_cons_mk (Below.trod hl h1.1 h1.2 h0 hb lt0) (trodAll_below hl hb (fun t h => ht t ye) r0)
theorem trodAll_length {H : Type} {enc : TypeId × Value → H} {P : Program} {W : World} {b : Nat} {sp : Nat → Bool} {hd : Bool} :
  ∀ {ts : List TypeId} {vs : List Value} {ds : List (DataW H)} {ps : List MemPlace}, DataW.TrodAll enc P W b sp hd ts vs ds ps → ds.length = ts.length
 | [], vs, ds, ps, h => by
  obtain ⟨rfl, rfl, rfl⟩ := trodAll_nil h
  rfl
 | t :: ts, vs, ds, ps, h => by
  obtain ⟨v, vs', d, ds', p, q, rfl, rfl, rfl, h0, r0⟩ := trodAll_cons h
  simp [trodAll_length r0]
theorem law_post {H : Type} {enc : TypeId × Value → H} {P : Program} {f : Func} {s : ChangeSpec} (hl : laidOutB P = true) (hts : ∀ t ∈ f.params.toList, P.readableRec t = true ∧ t < P.types.size)
  (hv : s.vars = []) {tb : TypeId} (hres : f.resultTypes = #[tb]) (hbool : P.underlying tb = some .bool)
  (hfn : ∀ ds : List (DataW H), ds.length = f.params.toList.length → s.fn H (ds ++ []) = { results := [.lit (.bool true)], args := ds })
  {W W' : World} {args : Array Value} {ds gs : List (DataW H)} {before : List MemPlace} (hW : DataW.Whole enc P f.params.toList s.vars false W args.toList ds gs before) (bel : Below W.heap.size W W') :
  s.post enc P f false true false false W args (.bool true) W' := by
 have hW' := hW
 obtain ⟨p, q, hA, hV, rfl, _, _⟩ := hW
 rw [hv] at hV
 obtain ⟨rfl, rfl⟩ := trodVars_none hV
 have e := hfn ds (trodAll_length hA)
 refine ⟨ds, [], p ++ [], [], p, [], hW', ?_, ?_, ?_, bel.frame _, fun h => by cases h⟩
 ·rw [e, hres]; exact trodAll_mk1 (shut_bool hbool _)
 ·rw [e]; exact trodAll_below hl bel hts hA
 ·rw [e, hv]; rfl
end Vg
namespace Vg
open Go Go.ChangeShapes Go.WideShapes Go.ChangeAt Go.RowKit
theorem laidMet_tail {P : Program} {W : World} {x : String × DataW Unit} {l : List (String × DataW Unit)} (h : laidMet P (x :: l) W) : laidMet P l W := by
 obtain ⟨ps, ⟨g, t, cs, fuel, p, q, _, _, _, _, hr, rfl⟩, hn, hall⟩ := h
 exact ⟨q, hr, (List.nodup_append.1 hn).2.1, fun b off h => hall b off (List.mem_append.2 (.inr h))⟩
theorem tabIn_of {P : Program} {W : World} {laid : List (String × DataW Unit)} {nm : String} {k : IntKind} {zs : List Int} {g : Nat} {t e : TypeId} {n : Nat} (i : Nat) (hh : (laid.all fun x => x.2.handleName?.isNone) = true)
  (hm : laid[i]? = some (nm, Lib.tabData k zs)) (hg : P.globalNamed nm = some g) (hty : (P.globals[g]?).map (·.type) = some t) (ht : P.underlying t = some (.array n e)) (he : P.underlying e = some (.int k)) (hce : P.cellsOf e = 1) (hct : P.cellsOf t = n)
  (h : laidMetH P laid W) : TabIn P (fun b => b < W.heap.size) W nm k zs := by
 rw [MakeChecks.laidMetH_plain _ _ _ hh] at h
 have key : ∀ {l : List (String × DataW Unit)} {i : Nat}, laidMet P l W → l[i]? = some (nm, Lib.tabData k zs) → Lib.TabIs P W nm k zs := by
  intro l
  induction l with
  | nil => intro i _ hm; simp at hm
  | cons x l ih =>
   intro i hv hm
   cases i with
   | zero =>
    obtain rfl := Option.some.inj hm
    exact Lib.tabIs_of_head hg hty ht he hce hct hv
   | succ i => exact ih (laidMet_tail hv) (by simpa using hm)
 have ht2 := key h hm
 refine ⟨⟨g, hg, ?_⟩, ht2⟩
 unfold Lib.TabIs World.var? at ht2
 rw [hg] at ht2
 simp only [Option.bind_some] at ht2
 rcases Nat.lt_or_ge g W.heap.size with h' | h'
 ·exact h'
 ·rw [Array.getElem?_eq_none h'] at ht2; simp at ht2
end Vg
end Go.Proofs.YtkpambabfalaiaaGreatDoor
