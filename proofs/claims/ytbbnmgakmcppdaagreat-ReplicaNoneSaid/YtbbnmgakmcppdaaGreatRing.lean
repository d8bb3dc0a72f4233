/- Rings: what each of their functions does. No condition. -/
import Derived.Test.YtbbnmgakmcppdaaGreatApi
namespace Go.Proofs.YtbbnmgakmcppdaaGreat.Ring
open Go Go.Proofs.YtbbnmgakmcppdaaGreat.Vg Go.Proofs.YtbbnmgakmcppdaaGreat.T Go.Proofs.YtbbnmgakmcppdaaGreat.Api
set_option linter.unusedSimpArgs false
set_option linter.unusedVariables false
attribute [local irreducible] VO VC VA

theorem clone_spec (Fr : Nat → Prop) (w : World) (m : MemS) : Tri Tryz.prog 222 [.slice m.1 0 m.2] Fr w [] (fun v L => (∃ m' : MemS, v = .slice m'.1 0 m'.2) ∧ L = []) := by
  refine Tri.of 8 Tryz.func222 rfl (by kernel_rfl) tabOk rfl rfl ?_
  obtain ⟨a, c⟩ := m
  cases a with
  | none =>
    (repeat (first|refine zS ?_|refine zR ?_|refine zB ?_|refine zL ?_|refine zC ?_|refine zG (zN ?_)|refine zG (zD 0 rfl rfl rfl rfl ?_)))
    refine VC.condT rfl ?_
    (repeat (first|refine zS ?_|refine zR ?_|refine zB ?_|refine zL ?_|refine zC ?_|refine zG (zN ?_)|refine zG (zD 0 rfl rfl rfl rfl ?_)))
    exact VC.ret (Ret.tmp 2 rfl rfl Ent.refl ⟨⟨(none, 0), rfl⟩, rfl⟩)
  | some a =>
    (repeat (first|refine zS ?_|refine zR ?_|refine zB ?_|refine zL ?_|refine zC ?_|refine zG (zN ?_)|refine zG (zD 0 rfl rfl rfl rfl ?_)))
    refine VC.condF rfl (VC.skip ?_)
    refine VC.seq (VC.region (VO.go (VO.buildSlice (n := 0) (pv := []) [] rfl rfl rfl rfl (by decide) rfl fun b => ?_)))
    refine VO.ent (L' := [slH 33 2 (some ⟨b, 0, none⟩) 0 0 []]) (Imp.sl (M := []) (cs := []) (rest := []) rfl (Nat.le_refl _) rfl (Imp.refl (L := [pt b [] 33]))).ent ?_
    refine VO.go (VO.append (m := 0) (news := []) 0 rfl rfl rfl rfl rfl rfl rfl RdRow.nil rfl (by decide) (by decide) fun a' c' _ => VO.go (VO.nil (VC.ret (Ret.tmp 2 rfl rfl Imp.nil.ent ⟨⟨(a', c'), rfl⟩, rfl⟩))))

set_option maxRecDepth 100000 in
theorem own_spec (Fr : Nat → Prop) (w : World) (p : FM) : Tri Tryz.prog 242 [.agg (fmc p).toArray] Fr w [] (fun v L => (∃ m, v = .agg (fmc (p.1, m)).toArray) ∧ L = []) := by
  refine Tri.of 10 Tryz.func242 rfl (by kernel_rfl) tabOk rfl rfl ?_
  refine VC.seq (VC.region (VO.go (VO.boxA (vs := fmc p) rfl (fun b => VO.go (VO.alloc rfl fun c => VO.go (VO.nil ?_))))))
  (repeat (first|refine zS ?_|refine zR ?_|refine zB ?_|refine zL ?_|refine zC ?_|refine zG (zN ?_)|refine zG (zD 0 rfl rfl rfl rfl ?_)|refine zG (zD 1 rfl rfl rfl rfl ?_)))
  refine VO.go (VO.callP (fun Fr w _ _ _ => clone_spec Fr w p.2) rfl ?_)
  rintro _ ⟨m, rfl⟩
  refine VO.go (VO.st 1 (cs' := fmc (p.1, m)) rfl rfl rfl rfl (by show 24 < 29; omega) rfl rfl (VO.go (VO.nil ?_)))
  refine VC.seq (VC.region (VO.go (VO.ldA 1 (fmc (p.1, m)) rfl rfl rfl rfl (VO.go (VO.stA (vs := fmc (p.1, m)) (cs' := fmc (p.1, m)) 0 rfl rfl rfl rfl (Nat.le_refl _) rfl rfl rfl (VO.go (VO.nil ?_)))))))
  exact VC.ret (Ret.cell 2 rfl rfl rfl (RdL.many 0 rfl rfl) Imp.nil.ent ⟨⟨m, rfl⟩, rfl⟩)

/-! ### A ring: its frames in order, and how many it may have -/
structure RingS where
  pb : Nat
  pl : List FM
  first : Nat
structure RingOk (q : List FrameM) (cap : Nat) (s : RingS) : Prop where
  len : s.pl.length = cap
  cap0 : 1 ≤ cap
  cap1 : cap ≤ 64
  first : s.first < cap
  qlen : q.length ≤ cap
  at_ : ∀ i, i < q.length → (s.pl[(s.first + i) % cap]?).map Prod.fst = q[i]?
def ringCs (q : List FrameM) (cap : Nat) (s : RingS) : List Value := [.slice (some ⟨s.pb, 0, none⟩) cap cap, .int .i64 s.first, .int .i64 q.length]
def ringL (p : Nat) (q : List FrameM) (cap : Nat) (s : RingS) : List HP := [pt p (ringCs q cap s) 250, pt s.pb (flat fmc s.pl) 46]
def ringH (p : Nat) (q : List FrameM) (cap : Nat) : HP := hex fun s => hsep (hpure (RingOk q cap s) :: ringL p q cap s)

structure RingIn (Fr : Nat → Prop) (w : World) (p : Nat) (q : List FrameM) (cap : Nat) (s : RingS) : Prop where
  ok : RingOk q cap s
  ring : Blk Fr w p (ringCs q cap s)
  places : Blk Fr w s.pb (flat fmc s.pl)
theorem RingIn.of {Fr : Nat → Prop} {w : World} {p : Nat} {q : List FrameM} {cap : Nat} (h : SatIn Fr [ringH p q cap] w) : ∃ s, RingIn Fr w p q cap s := by
  obtain ⟨s, h⟩ := h.ex
  have h := h.sep
  exact ⟨s, h.pure 0 rfl, h.blk 1 rfl, h.blk 2 rfl⟩
theorem HOpn.ring (p : Nat) (q : List FrameM) (cap : Nat) : HOpn (ringH p q cap) (fun s => RingOk q cap s) (fun s => ringL p q cap s) := by
  rintro w ids ⟨s, h⟩ hn
  obtain ⟨F, G, rfl, ⟨rfl, h1⟩, h2⟩ := h
  exact ⟨s, h1, G, h2, by simpa using hn, fun b hb => by simpa using hb⟩
theorem Imp.ring {p : Nat} {q : List FrameM} {cap : Nat} {L M : List HP} (s : RingS) (hs : RingOk q cap s) (h : Imp L (ringL p q cap s ++ M)) : Imp L (ringH p q cap :: M) :=
  Imp.ex s (Imp.sep (Imp.trans h (Imp.app (L := ringL p q cap s) (M := _ :: ringL p q cap s) (Imp.pure hs Imp.refl) Imp.refl)))

theorem none_spec (Fr : Nat → Prop) (w : World) {p : Nat} {a : Addr} {n c : Nat} {cs : List Value} (h : Blk Fr w p (.slice (some a) n c :: cs)) : Tri Tryz.prog 236 [.pointer (some ⟨p, 0, none⟩)] Fr w [] (fun v L => v = .bool false ∧ L = []) := by
  refine Tri.of 12 Tryz.func236 rfl (by kernel_rfl) tabOk rfl rfl ?_
  (repeat (first|refine zS ?_|refine zR ?_|refine zB ?_|refine zL ?_|refine zC ?_|refine zG (zN ?_)|refine zG (zD 0 rfl rfl rfl rfl ?_)))
  refine VO.go (VO.split 5 rfl rfl (fun h => by cases h) (fun _ => ?_))
  (repeat (first|refine zS ?_|refine zR ?_|refine zB ?_|refine zL ?_|refine zC ?_|refine zG (zN ?_)|refine zG (zE rfl rfl (RdL.blk h rfl) ?_)))
  exact VC.ret (Ret.bool 2 rfl rfl rfl Ent.refl ⟨rfl, rfl⟩)

theorem place_spec (Fr : Nat → Prop) (w : World) {p pb first cap : Nat} {cs : List Value} (i : Nat) (h : Blk Fr w p (.slice (some ⟨pb, 0, none⟩) cap cap :: .int .i64 first :: cs)) (hc : 1 ≤ cap) (h1 : first ≤ 1000) (h2 : i ≤ 1000) :
    Tri Tryz.prog 240 [.pointer (some ⟨p, 0, none⟩), .int .i64 i] Fr w [] (fun v L => v = .int .i64 ((first + i) % cap : Nat) ∧ L = []) := by
  refine Tri.of 17 Tryz.func240 rfl (by kernel_rfl) tabOk rfl rfl ?_
  (repeat (first|refine zS ?_|refine zR ?_|refine zB ?_|refine zL ?_|refine zC ?_|refine zG (zN ?_)|refine zG (zD 0 rfl rfl rfl rfl ?_)))
  refine VC.draw (ts 0 13 .nil) (by kernel_rfl) (by kernel_rfl) ?_
  (repeat (first|refine yG (yN ?_)|refine yG (yE rfl rfl rfl (RdL.blk h rfl) ?_)))
  refine VA.go (VA.add rfl rfl rfl ?_ ?_ ?_)
  · omega
  · omega
  (repeat (first|refine yG (yN ?_)|refine yG (yE rfl rfl rfl (RdL.blk h rfl) ?_)))
  refine VA.go (VA.light rfl (light_rem rfl rfl ?_ ?_) ?_)
  · omega
  · omega
  (repeat (first|refine yG (yN ?_)|refine yG (yD 0 rfl rfl rfl rfl rfl ?_)))
  exact VC.ret (Ret.int 4 rfl rfl (by push_cast; rfl) Ent.refl ⟨rfl, rfl⟩)

theorem len_spec (Fr : Nat → Prop) (w : World) {p : Nat} {q : List FrameM} {cap : Nat} (h : SatIn Fr [ringH p q cap] w) : Tri Tryz.prog 218 [.pointer (some ⟨p, 0, none⟩)] Fr w [] (fun v L => v = .int .i64 q.length ∧ L = []) := by
  obtain ⟨s, h⟩ := RingIn.of h
  have hb := h.ring
  refine Tri.of 9 Tryz.func218 rfl (by kernel_rfl) tabOk rfl rfl ?_
  (repeat (first|refine zS ?_|refine zR ?_|refine zB ?_|refine zL ?_|refine zC ?_|refine zG (zN ?_)|refine zG (zD 0 rfl rfl rfl rfl ?_)))
  refine VO.go (VO.callV' (fun Fr w hF hs _ => none_spec Fr w (hb.of hF hs)) rfl ?_)
  (repeat (first|refine zS ?_|refine zR ?_|refine zB ?_|refine zL ?_|refine zC ?_|refine zG (zN ?_)|refine zG (zD 0 rfl rfl rfl rfl ?_)))
  refine VC.condF rfl (VC.skip ?_)
  (repeat (first|refine zS ?_|refine zR ?_|refine zB ?_|refine zL ?_|refine zC ?_|refine zG (zN ?_)|refine zG (zE rfl rfl (RdL.blk hb rfl) ?_)))
  exact VC.ret (Ret.int 2 rfl rfl rfl Ent.refl ⟨rfl, rfl⟩)

/-- The place of the frame of a number, and that frame. -/
theorem RingOk.place {q : List FrameM} {cap : Nat} {s : RingS} (h : RingOk q cap s) {i : Nat} (hi : i < q.length) : ∃ p : FM, s.pl[(s.first + i) % cap]? = some p ∧ q[i]? = some p.1 := by
  have h1 := h.at_ i hi
  have h2 : (s.first + i) % cap < s.pl.length := by rw [h.len]; exact Nat.mod_lt _ h.cap0
  refine ⟨_, List.getElem?_eq_getElem h2, ?_⟩
  rw [← h1, List.getElem?_eq_getElem h2]; rfl

def atR (q : List FrameM) (i : Nat) (v : Value) : Prop := match q[i]? with
  | some f => ∃ m, v = .tuple #[.agg (fmc (f, m)).toArray, .bool true]
  | none => v = .tuple #[.agg (fmc fmz).toArray, .bool false]

set_option maxRecDepth 100000 in
theorem at_spec (Fr : Nat → Prop) (w : World) {p : Nat} {q : List FrameM} {cap : Nat} (i : Nat) (h : SatIn Fr [ringH p q cap] w) : Tri Tryz.prog 239 [.pointer (some ⟨p, 0, none⟩), .int .i64 i] Fr w [] (fun v L => atR q i v ∧ L = []) := by
  obtain ⟨s, h⟩ := RingIn.of h
  have hb := h.ring
  have hp := h.places
  refine Tri.of 31 Tryz.func239 rfl (by kernel_rfl) tabOk rfl rfl ?_
  refine VC.seq (VC.region (VO.go (VO.alloc rfl fun b => VO.go (VO.nil ?_))))
  (repeat (first|refine zS ?_|refine zR ?_|refine zB ?_|refine zL ?_|refine zC ?_|refine zG (zN ?_)|refine zG (zD 0 rfl rfl rfl rfl ?_)))
  refine VO.go (VO.callV' (fun Fr w hF hs _ => none_spec Fr w (hb.of hF hs)) rfl (VO.go (VO.yes 8 false rfl rfl ?_)))
  (repeat (first|refine zS ?_|refine zR ?_|refine zB ?_|refine zL ?_|refine zC ?_|refine zG (zN ?_)|refine zG (zD 0 rfl rfl rfl rfl ?_)))
  refine VO.go (VO.yes 12 false rfl (decide_eq_false (by omega)) ?_)
  (repeat (first|refine zS ?_|refine zR ?_|refine zB ?_|refine zL ?_|refine zC ?_|refine zG (zN ?_)|refine zG (zE rfl rfl (RdL.blk hb rfl) ?_)))
  refine VC.condP rfl (fun h1 => ?_) (fun h1 => ?_)
  · refine VC.seq (VC.region (VO.go (VO.light (light_build (pv := []) (fmc fmz) rfl rfl rfl rfl rfl) (VO.go (VO.stA (vs := fmc fmz) (cs' := fmc fmz) 0 rfl rfl rfl rfl (Nat.le_refl _) rfl rfl rfl (VO.go (VO.nil ?_)))))))
    refine VC.ret (Ret.cellTmp 4 5 rfl rfl rfl (RdL.many 0 rfl rfl) rfl Imp.nil.ent ⟨?_, rfl⟩)
    have h1 : q.length ≤ i := by omega
    simp only [atR, List.getElem?_eq_none h1]
    rfl
  · have h1 : i < q.length := by omega
    have hq := h.ok.qlen
    have hc := h.ok.cap1
    have hf := h.ok.first
    obtain ⟨f, hf1, hf2⟩ := h.ok.place h1
    have hlt : (s.first + i) % cap < cap := Nat.mod_lt _ h.ok.cap0
    refine VC.skip ?_
    refine VC.seq (VC.draw (ts 0 6 (.only 6 (ts 7 2 (.only 9 (.only 10 (.take 11 .nil)))))) (by kernel_rfl) (by kernel_rfl) ?_)
    (repeat (first|refine yG (yN ?_)|refine yG (yE rfl rfl rfl (RdL.blk hb rfl) ?_)))
    refine VA.go (VA.callP (fun Fr w hF hs _ => place_spec Fr w i (hb.of hF hs) h.ok.cap0 (by omega) (by omega)) rfl rfl (Pd.cons (RdL.blk hb rfl) Pd.nil).st ?_)
    rintro _ rfl
    refine VA.go (VA.light rfl (light_idx ((s.first + i) % cap) rfl rfl rfl rfl rfl rfl hlt) ?_)
    have hrow : ((flat fmc s.pl).drop (0 + (s.first + i) % cap * 29)).take 29 = fmc f := by
      have := flat_row fmc_len hf1 []
      rwa [List.append_nil, ← Nat.zero_add (_ * 29)] at this
    refine VA.go (VA.load rfl rfl rfl (RdL.blkA hp hrow) ?_)
    refine VA.go (VA.callP (fun Fr w hF hs _ => own_spec Fr w f) rfl rfl (Pd.cons (RdL.blkA hp hrow) (Pd.cons (RdL.blk hb rfl) Pd.nil).filter).st ?_)
    rintro _ ⟨m, rfl⟩
    refine VA.go (VA.stA (vs := fmc (f.1, m)) (cs' := fmc (f.1, m)) 0 rfl rfl rfl rfl rfl (Nat.le_refl _) rfl rfl rfl (by (try refine Pd.st ?_);(repeat (first|exact Pd.nil|exact Pd.fnil|refine Pd.inner ?_|refine Pd.skip (by decide +kernel) ?_|refine zf (RdL.blk hb rfl) ?_|refine zf (RdL.blk (RdL.blkA hp hrow) rfl) ?_|refine zf (hb) ?_|refine zf ((RdL.blkA hp hrow)) ?_|refine zc (RdL.blk hb rfl) ?_|refine zc (RdL.blk (RdL.blkA hp hrow) rfl) ?_|refine zc (hb) ?_|refine zc ((RdL.blkA hp hrow)) ?_))) ?_)
    (repeat (first|refine yG (yN ?_)|refine yG (yD 0 rfl rfl rfl rfl rfl ?_)))
    refine VC.ret (Ret.cellTmp 4 5 rfl rfl rfl (RdL.many 0 rfl rfl) rfl Imp.nil.ent ⟨?_, rfl⟩)
    simp only [atR, hf2]
    exact ⟨m, rfl⟩

set_option maxRecDepth 100000 in
theorem front_spec (Fr : Nat → Prop) (w : World) {p : Nat} {q : List FrameM} {cap : Nat} (h : SatIn Fr [ringH p q cap] w) : Tri Tryz.prog 228 [.pointer (some ⟨p, 0, none⟩)] Fr w [] (fun v L => atR q 0 v ∧ L = []) := by
  refine Tri.of 8 Tryz.func228 rfl (by kernel_rfl) tabOk rfl rfl ?_
  refine VC.seq (VC.region (VO.go (VO.alloc rfl fun b => VO.go (VO.nil ?_))))
  (repeat (first|refine zS ?_|refine zR ?_|refine zB ?_|refine zL ?_|refine zC ?_|refine zG (zN ?_)|refine zG (zD 0 rfl rfl rfl rfl ?_)))
  refine VO.go (VO.callP (φ := atR q 0) (fun Fr w hF hs _ => at_spec Fr w 0 (h.of hF hs)) rfl ?_)
  intro v hv
  unfold atR at hv
  cases hq : q[0]? with
  | some f =>
    rw [hq] at hv
    obtain ⟨m, rfl⟩ := hv
    refine VO.go (VO.stA (vs := fmc (f, m)) (cs' := fmc (f, m)) 0 rfl rfl rfl rfl (Nat.le_refl _) rfl rfl rfl (VO.go (VO.nil ?_)))
    refine VC.ret (Ret.cellTmp 2 3 rfl rfl rfl (RdL.many 0 rfl rfl) rfl Imp.nil.ent ⟨?_, rfl⟩)
    simp only [atR, hq]
    exact ⟨m, rfl⟩
  | none =>
    rw [hq] at hv
    subst hv
    refine VO.go (VO.stA (vs := fmc fmz) (cs' := fmc fmz) 0 rfl rfl rfl rfl (Nat.le_refl _) rfl rfl rfl (VO.go (VO.nil ?_)))
    refine VC.ret (Ret.cellTmp 2 3 rfl rfl rfl (RdL.many 0 rfl rfl) rfl Imp.nil.ent ⟨?_, rfl⟩)
    simp only [atR, hq]
    rfl

theorem mod_ne {a i j c : Nat} (h1 : i < j) (h2 : j < c) : (a + i) % c ≠ (a + j) % c := fun h => by
  have := Nat.sub_mod_eq_zero_of_mod_eq h.symm
  rw [show a + j - (a + i) = j - i from by omega, Nat.mod_eq_of_lt (by omega)] at this
  omega

theorem RingOk.push {q : List FrameM} {cap : Nat} {s : RingS} (h : RingOk q cap s) (hq : q.length < cap) (f : FrameM) (m : MemS) : RingOk (q ++ [f]) cap { s with pl := s.pl.set ((s.first + q.length) % cap) (f, m) } := by
  have hlt : (s.first + q.length) % cap < s.pl.length := by rw [h.len]; exact Nat.mod_lt _ h.cap0
  refine ⟨by simpa using h.len, h.cap0, h.cap1, h.first, by simp; omega, fun i hi => ?_⟩
  simp only [List.length_append, List.length_singleton] at hi
  by_cases hi2 : i < q.length
  · rw [List.getElem?_append_left hi2, List.getElem?_set_ne (fun e => mod_ne hi2 hq e.symm)]
    exact h.at_ i hi2
  · have : i = q.length := by omega
    subst this
    rw [List.getElem?_set_self hlt]; simp

theorem RingOk.pop {f : FrameM} {q : List FrameM} {cap : Nat} {s : RingS} (h : RingOk (f :: q) cap s) (z : FM) : RingOk q cap { s with first := (s.first + 1) % cap, pl := s.pl.set s.first z } := by
  have hq := h.qlen
  simp only [List.length_cons] at hq
  refine ⟨by simpa using h.len, h.cap0, h.cap1, Nat.mod_lt _ h.cap0, by omega, fun i hi => ?_⟩
  have h1 := h.at_ (i + 1) (by simpa using hi)
  have h2 : ((s.first + 1) % cap + i) % cap = (s.first + (i + 1)) % cap := by rw [Nat.mod_add_mod]; congr 1; omega
  have h3 : s.first ≠ (s.first + (i + 1)) % cap := fun e => by
    have := mod_ne (a := s.first) (i := 0) (j := i + 1) (c := cap) (by omega) (by omega)
    rw [Nat.add_zero, Nat.mod_eq_of_lt h.first] at this
    exact this e
  simp only
  rw [h2, List.getElem?_set_ne h3, h1]; rfl

def pushR (p : Nat) (q : List FrameM) (cap : Nat) (f : FrameM) (v : Value) (L : List HP) : Prop := v = .bool (decide (q.length < cap)) ∧ L = [ringH p (if q.length < cap then q ++ [f] else q) cap]

set_option maxRecDepth 100000 in
theorem push_spec (Fr : Nat → Prop) (w : World) (p : Nat) (q : List FrameM) (cap : Nat) (f : FM) : Tri Tryz.prog 238 [.pointer (some ⟨p, 0, none⟩), .agg (fmc f).toArray] Fr w [ringH p q cap] (pushR p q cap f.1) := by
  refine Tri.of 39 Tryz.func238 rfl (by kernel_rfl) tabOk rfl rfl ?_
  refine VC.seq (VC.region (VO.go (VO.boxA (vs := fmc f) rfl fun b => VO.go (VO.nil ?_))))
  refine VC.opn 1 rfl (HOpn.ring p q cap) fun s h => ?_
  have hq := h.qlen
  have hc := h.cap1
  have hf := h.first
  (repeat (first|refine zS ?_|refine zR ?_|refine zB ?_|refine zL ?_|refine zC ?_|refine zG (zN ?_)|refine zG (zD 0 rfl rfl rfl rfl ?_)))
  refine VC.draw (.take 0 (.only 1 (ts 2 12 .nil))) (by kernel_rfl) (by kernel_rfl) ?_
  refine VA.go (VA.callP (fun Fr w hF _ hs => none_spec Fr w (hs.blk 0 rfl)) rfl rfl Pd.nil.st ?_)
  rintro _ rfl
  refine VA.go (VA.yes 7 false rfl rfl ?_)
  (repeat (first|refine yG (yN ?_)|refine yG (yD 0 rfl rfl rfl rfl rfl ?_)))
  refine VC.condE rfl (fun h1 => ?_) (fun h1 => ?_)
  · (repeat (first|refine zS ?_|refine zR ?_|refine zB ?_|refine zL ?_|refine zC ?_|refine zG (zN ?_)|refine zG (zD 0 rfl rfl rfl rfl ?_)))
    have h1 : ¬ q.length < cap := by omega
    exact VC.ret (Ret.bool 4 rfl rfl rfl (Imp.trans (Imp.app (L := ringL p q cap s) (M := ringL p q cap s) (L' := [pt b (fmc f) 46]) Imp.refl Imp.nil) (Imp.ring s h Imp.refl)).ent ⟨by simp [h1], by simp [h1]⟩)
  · have h1 : q.length < cap := by omega
    have hlt : (s.first + q.length) % cap < cap := Nat.mod_lt _ h.cap0
    refine VC.skip ?_
    refine VC.seq (VC.draw (ts 0 9 (.take 10 (.only 9 (.only 11 (.take 12 (.only 13 .nil)))))) (by kernel_rfl) (by kernel_rfl) ?_)
    (repeat (first|refine yG (yN ?_)|refine yG (yD 0 rfl rfl rfl rfl rfl ?_)))
    refine VA.go (VA.ldA 2 (fmc f) rfl rfl rfl rfl rfl ?_)
    refine VA.go (VA.callP (fun Fr w hF _ hs => place_spec Fr w q.length (hs.blk 0 rfl) h.cap0 (by omega) (by omega)) rfl rfl (by (try refine Pd.st ?_);(repeat (first|exact Pd.nil|exact Pd.fnil|refine Pd.inner ?_|refine Pd.skip (by decide +kernel) ?_|refine zf (zo 0 rfl rfl) ?_|refine zf (zo 1 rfl rfl) ?_|refine zf (zo 2 rfl rfl) ?_|refine zf (zm 0 rfl rfl) ?_|refine zf (zm 1 rfl rfl) ?_|refine zf (zm 2 rfl rfl) ?_|refine zc (zo 0 rfl rfl) ?_|refine zc (zo 1 rfl rfl) ?_|refine zc (zo 2 rfl rfl) ?_|refine zc (zm 0 rfl rfl) ?_|refine zc (zm 1 rfl rfl) ?_|refine zc (zm 2 rfl rfl) ?_))) ?_)
    rintro _ rfl
    refine VA.go (VA.callP (fun Fr w hF hs _ => own_spec Fr w f) rfl rfl (by (try refine Pd.st ?_);(repeat (first|exact Pd.nil|exact Pd.fnil|refine Pd.inner ?_|refine Pd.skip (by decide +kernel) ?_|refine zf (zo 0 rfl rfl) ?_|refine zf (zo 1 rfl rfl) ?_|refine zf (zo 2 rfl rfl) ?_|refine zf (zm 0 rfl rfl) ?_|refine zf (zm 1 rfl rfl) ?_|refine zf (zm 2 rfl rfl) ?_|refine zc (zo 0 rfl rfl) ?_|refine zc (zo 1 rfl rfl) ?_|refine zc (zo 2 rfl rfl) ?_|refine zc (zm 0 rfl rfl) ?_|refine zc (zm 1 rfl rfl) ?_|refine zc (zm 2 rfl rfl) ?_))) ?_)
    rintro _ ⟨m, rfl⟩
    refine VA.go (VA.light rfl (light_idx ((s.first + q.length) % cap) rfl rfl rfl rfl rfl rfl hlt) ?_)
    have hw := flat_set fmc_len (f.1, m) [] (i := (s.first + q.length) % cap) (l := s.pl) (by rw [h.len]; exact hlt)
    rw [List.append_nil, List.append_nil, ← Nat.zero_add (_ * 29)] at hw
    refine VA.go (VA.stA (vs := fmc (f.1, m)) 1 rfl rfl rfl rfl rfl ?_ hw rfl rfl (by (try refine Pd.st ?_);(repeat (first|exact Pd.nil|exact Pd.fnil|refine Pd.inner ?_|refine Pd.skip (by decide +kernel) ?_|refine zf (zo 0 rfl rfl) ?_|refine zf (zo 1 rfl rfl) ?_|refine zf (zo 2 rfl rfl) ?_|refine zf (zm 0 rfl rfl) ?_|refine zf (zm 1 rfl rfl) ?_|refine zf (zm 2 rfl rfl) ?_|refine zc (zo 0 rfl rfl) ?_|refine zc (zo 1 rfl rfl) ?_|refine zc (zo 2 rfl rfl) ?_|refine zc (zm 0 rfl rfl) ?_|refine zc (zm 1 rfl rfl) ?_|refine zc (zm 2 rfl rfl) ?_))) ?_)
    · rw [flat_len fmc_len, h.len, fmc_len]; show 0 + (s.first + q.length) % cap * 29 + 29 ≤ cap * 29; omega
    (repeat (first|refine yG (yN ?_)|refine yG (yD 0 rfl rfl rfl rfl rfl ?_)))
    (repeat (first|refine zS ?_|refine zR ?_|refine zB ?_|refine zL ?_|refine zC ?_|refine zG (zN ?_)|refine zG (zD 0 rfl rfl rfl rfl ?_)))
    refine VO.go (VO.add rfl rfl ?_ ?_ ?_)
    · omega
    · omega
    refine VO.go (VO.st 0 rfl rfl rfl rfl (by show 2 < 3; omega) rfl rfl (VO.go (VO.nil ?_)))
    (repeat (first|refine zS ?_|refine zR ?_|refine zB ?_|refine zL ?_|refine zC ?_|refine zG (zN ?_)|refine zG (zD 0 rfl rfl rfl rfl ?_)))
    refine VC.ret (Ret.bool 4 rfl rfl rfl (L' := [ringH p (q ++ [f.1]) cap]) ?_ ⟨by simp [h1], by simp [h1]⟩)
    have e : ringCs (q ++ [f.1]) cap { s with pl := s.pl.set ((s.first + q.length) % cap) (f.1, m) } = [.slice (some ⟨s.pb, 0, none⟩) cap cap, .int .i64 s.first, .int .i64 ((q.length : Int) + 1)] := by simp [ringCs]
    refine (Imp.ring _ (h.push h1 f.1 m) ?_).ent
    unfold ringL
    rw [e]
    exact Imp.app (L := [_, _]) (M := [_, _]) (L' := [_]) Imp.refl Imp.nil

def popR (p : Nat) (cap : Nat) : List FrameM → Value → List HP → Prop
  | [], v, L => v = .tuple #[.agg (fmc fmz).toArray, .bool false] ∧ L = [ringH p [] cap]
  | f :: q, v, L => (∃ m, v = .tuple #[.agg (fmc (f, m)).toArray, .bool true]) ∧ L = [ringH p q cap]

set_option maxRecDepth 100000 in
theorem pop_spec (Fr : Nat → Prop) (w : World) (p : Nat) (q : List FrameM) (cap : Nat) : Tri Tryz.prog 231 [.pointer (some ⟨p, 0, none⟩)] Fr w [ringH p q cap] (popR p cap q) := by
  refine Tri.of 39 Tryz.func231 rfl (by kernel_rfl) tabOk rfl rfl ?_
  refine VC.seq (VC.region (VO.go (VO.alloc rfl fun b => VO.go (VO.nil ?_))))
  (repeat (first|refine zS ?_|refine zR ?_|refine zB ?_|refine zL ?_|refine zC ?_|refine zG (zN ?_)|refine zG (zD 0 rfl rfl rfl rfl ?_)))
  refine VO.go (VO.callP (φ := atR q 0) (fun Fr w hF hw hs => front_spec Fr w (hs.at_ 1 rfl)) rfl ?_)
  intro v hv
  unfold atR at hv
  cases q with
  | nil =>
    simp only [List.getElem?_nil] at hv
    subst hv
    refine VO.go (VO.stA (vs := fmc fmz) (cs' := fmc fmz) 0 rfl rfl rfl rfl (Nat.le_refl _) rfl rfl rfl (VO.go (VO.nil ?_)))
    (repeat (first|refine zS ?_|refine zR ?_|refine zB ?_|refine zL ?_|refine zC ?_|refine zG (zN ?_)|refine zG (zD 0 rfl rfl rfl rfl ?_)))
    refine VC.condT rfl ?_
    refine VC.seq (VC.region (VO.go (VO.light (light_build (pv := []) (fmc fmz) rfl rfl rfl rfl rfl) (VO.go (VO.stA (vs := fmc fmz) (cs' := fmc fmz) 0 rfl rfl rfl rfl (Nat.le_refl _) rfl rfl rfl (VO.go (VO.nil ?_)))))))
    exact VC.ret (Ret.cellTmp 2 3 rfl rfl rfl (RdL.many 0 rfl rfl) rfl (Imp.app (L := [_]) (M := []) (L' := [_]) (M' := [_]) Imp.nil Imp.refl).ent ⟨rfl, rfl⟩)
  | cons f q =>
    simp only [List.getElem?_cons_zero] at hv
    obtain ⟨m, rfl⟩ := hv
    refine VO.go (VO.stA (vs := fmc (f, m)) (cs' := fmc (f, m)) 0 rfl rfl rfl rfl (Nat.le_refl _) rfl rfl rfl (VO.go (VO.nil ?_)))
    (repeat (first|refine zS ?_|refine zR ?_|refine zB ?_|refine zL ?_|refine zC ?_|refine zG (zN ?_)|refine zG (zD 0 rfl rfl rfl rfl ?_)))
    refine VC.condF rfl (VC.skip ?_)
    refine VC.opn 1 rfl (HOpn.ring p (f :: q) cap) fun s h => ?_
    have hq := h.qlen
    have hc := h.cap1
    have hf := h.first
    have hc0 := h.cap0
    refine VC.seq (VC.draw (ts 0 14 (.only 14 .nil)) (by kernel_rfl) (by kernel_rfl) ?_)
    (repeat (first|refine yG (yN ?_)|refine yG (yD 0 rfl rfl rfl rfl rfl ?_)))
    refine VA.go (VA.add rfl rfl rfl ?_ ?_ ?_)
    · omega
    · omega
    (repeat (first|refine yG (yN ?_)|refine yG (yD 0 rfl rfl rfl rfl rfl ?_)))
    refine VA.go (VA.light rfl (light_slice s.first (s.first + 1) rfl rfl rfl rfl rfl rfl rfl (by push_cast; rfl) (by omega) (by omega) (by omega)) ?_)
    have hw := flat_set fmc_len fmz [] (i := s.first) (l := s.pl) (by rw [h.len]; exact hf)
    rw [List.append_nil, List.append_nil, ← Nat.zero_add (_ * 29)] at hw
    refine VA.go (VA.opP (OpT.clear 1 rfl rfl rfl rfl rfl (by omega) ?_ rfl) rfl ?_ ?_)
    · rw [flat_len fmc_len, h.len]; show 0 + s.first * 29 + (s.first + 1 - s.first) * 29 ≤ cap * 29; omega
    · rintro _ _ ⟨rfl, rfl⟩
      exact (by (try refine Pd.st ?_);(repeat (first|exact Pd.nil|exact Pd.fnil|refine Pd.inner ?_|refine Pd.skip (by decide +kernel) ?_|refine zf (zo 0 rfl rfl) ?_|refine zf (zo 1 rfl rfl) ?_|refine zf (zm 0 rfl rfl) ?_|refine zf (zm 1 rfl rfl) ?_|refine zc (zo 0 rfl rfl) ?_|refine zc (zo 1 rfl rfl) ?_|refine zc (zm 0 rfl rfl) ?_|refine zc (zm 1 rfl rfl) ?_)))
    rintro _ _ ⟨rfl, rfl⟩
    have hz : (List.replicate (s.first + 1 - s.first) T.t46.zs).flatten = fmc fmz := by rw [show s.first + 1 - s.first = 1 from by omega]; rfl
    have hw2 : wrC (flat fmc s.pl) (0 + s.first * T.t46.size) (List.replicate (s.first + 1 - s.first) T.t46.zs).flatten = flat fmc (s.pl.set s.first fmz) := by rw [hz]; exact hw
    rw [hw2]
    (repeat (first|refine yG (yN ?_)|refine yG (yD 0 rfl rfl rfl rfl rfl ?_)))
    (repeat (first|refine zS ?_|refine zR ?_|refine zB ?_|refine zL ?_|refine zC ?_|refine zG (zN ?_)|refine zG (zD 0 rfl rfl rfl rfl ?_)))
    refine VO.go (VO.callV' (fun Fr w hF _ hs => place_spec Fr w 1 (hs.blk 0 rfl) hc0 (by omega) (by omega)) rfl ?_)
    refine VO.go (VO.st 0 rfl rfl rfl rfl (by show 1 < 3; omega) rfl rfl (VO.go (VO.nil ?_)))
    (repeat (first|refine zS ?_|refine zR ?_|refine zB ?_|refine zL ?_|refine zC ?_|refine zG (zN ?_)|refine zG (zD 0 rfl rfl rfl rfl ?_)))
    refine VO.go (VO.sub' rfl rfl ?_ ?_ ?_)
    · omega
    · omega
    refine VO.go (VO.st 0 rfl rfl rfl rfl (by show 2 < 3; omega) rfl rfl (VO.go (VO.nil ?_)))
    (repeat (first|refine zS ?_|refine zR ?_|refine zB ?_|refine zL ?_|refine zC ?_|refine zG (zN ?_)|refine zG (zD 0 rfl rfl rfl rfl ?_)))
    refine VO.go (VO.ldA 2 (fmc (f, m)) rfl rfl rfl rfl (VO.go (VO.stA (vs := fmc (f, m)) (cs' := fmc (f, m)) 2 rfl rfl rfl rfl (Nat.le_refl _) rfl rfl rfl (VO.go (VO.nil ?_)))))
    refine VC.ret (Ret.cellTmp 2 3 rfl rfl rfl (RdL.many 2 rfl rfl) rfl (L' := [ringH p q cap]) ?_ ⟨⟨m, rfl⟩, rfl⟩)
    refine (Imp.ring _ (h.pop fmz) ?_).ent
    have e : ringCs q cap { s with first := (s.first + 1) % cap, pl := s.pl.set s.first fmz } = [.slice (some ⟨s.pb, 0, none⟩) cap cap, .int .i64 ((s.first + 1) % cap : Nat), .int .i64 (((f :: q).length : Int) - 1)] := by simp [ringCs]
    unfold ringL
    rw [e]
    exact Imp.app (L := [_, _]) (M := [_, _]) (L' := [_]) Imp.refl Imp.nil

theorem RingOk.new (cap : Nat) (h0 : 1 ≤ cap) (h1 : cap ≤ 64) (b : Nat) : RingOk [] cap ⟨b, List.replicate cap fmz, 0⟩ :=
  ⟨by simp, h0, h1, h0, by simp, fun i hi => by simp at hi⟩

set_option maxRecDepth 100000 in
theorem new_spec (Fr : Nat → Prop) (w : World) (cap : Nat) (h0 : 1 ≤ cap) (h1 : cap ≤ 64) : Tri Tryz.prog 190 [.int .i64 cap] Fr w [] (fun v L => ∃ p, v = .tuple #[.pointer (some ⟨p, 0, none⟩), .int .i64 0] ∧ L = [ringH p [] cap]) := by
  refine Tri.of 14 Tryz.func190 rfl (by kernel_rfl) tabOk rfl rfl ?_
  (repeat (first|refine zS ?_|refine zR ?_|refine zB ?_|refine zL ?_|refine zC ?_|refine zG (zN ?_)|refine zG (zD 0 rfl rfl rfl rfl ?_)))
  refine VO.go (VO.yes 6 false rfl (decide_eq_false (by omega)) ?_)
  (repeat (first|refine zS ?_|refine zR ?_|refine zB ?_|refine zL ?_|refine zC ?_|refine zG (zN ?_)|refine zG (zD 0 rfl rfl rfl rfl ?_)))
  refine VC.condP rfl (fun h => absurd h (by omega)) (fun _ => VC.skip ?_)
  refine VC.seq (VC.region (VO.go (VO.makeSlice cap rfl rfl rfl rfl rfl rfl rfl (by omega) ?_ fun b => ?_)))
  · show 288 * cap ≤ _; omega
  refine VO.go (VO.light (light_build [.slice (some ⟨b, 0, none⟩) cap cap, .int .i64 0, .int .i64 0] rfl rfl rfl rfl rfl) (VO.go (VO.boxA (vs := [.slice (some ⟨b, 0, none⟩) cap cap, .int .i64 0, .int .i64 0]) rfl fun p => VO.go (VO.nil ?_))))
  refine VC.ret (Ret.tmp2 2 3 rfl rfl rfl ?_ ⟨p, rfl, rfl⟩)
  exact (Imp.ring (M := []) ⟨b, List.replicate cap fmz, 0⟩ (RingOk.new cap h0 h1 b) (by
    have : flat fmc (List.replicate cap fmz) = (List.replicate cap T.t46.zs).flatten := (flat_replicate cap fmz).symm
    unfold ringL
    simp only [this]
    exact Imp.refl)).ent
end Go.Proofs.YtbbnmgakmcppdaaGreat.Ring
