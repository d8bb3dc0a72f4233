/- Layer 24: words that are numbers, and words taken one after the other. No condition but what the listed variables hold. -/
import Derived.Test.YtceobomlmdmicaaDoorSc1
namespace Go.Proofs.YtceobomlmdmicaaDoor.Scr
open Go Go.Proofs.YtceobomlmdmicaaDoor.Vg Go.Proofs.YtceobomlmdmicaaDoor.T Go.Proofs.YtceobomlmdmicaaDoor.Api Go.Proofs.YtceobomlmdmicaaDoor.LibC
set_option linter.unusedSimpArgs false
set_option linter.unusedVariables false
attribute [local irreducible] VO VC VA

def nilB : ByteArray := ⟨#[]⟩
theorem numOf_range {s : ByteArray} {n : Int} (h : numOf s = some n) : -9223372036854775808 ≤ n ∧ n ≤ 9223372036854775807 := by
  unfold numOf at h
  cases ha : Lib.atoiAll s.data.toList with
  | range => rw [ha] at h; cases h
  | ok v =>
    rw [ha] at h
    obtain rfl : v = n := Option.some.inj h
    unfold Lib.atoiAll at ha
    split at ha
    · cases ha
    · simp only at ha
      split at ha
      · cases ha
      · cases ha
      · split at ha
        · cases ha
        · split at ha
          · cases ha
          · injection ha with ha
            rename_i h1 h2
            subst ha
            split
            · rename_i hn
              have : ¬ 9223372036854775808 < _ := fun h => h2 ⟨hn, h⟩
              omega
            · rename_i hn
              have : ¬ 9223372036854775808 ≤ _ := fun h => h1 ⟨hn, h⟩
              omega
  | _ => rw [ha] at h; cases h
/-- A word that is a number's own text. -/
def numR (s : ByteArray) : Option Int := match numOf s with
  | some n => if numT n = s then some n else none
  | none => none
theorem numR_nil : numR nilB = none := by decide +kernel

set_option maxRecDepth 100000 in
theorem getNumber_spec (Fr : Nat → Prop) (w : World) (s : ByteArray) (hs : s.size ≤ 1000000) (h : GlobF Fr w) : Tri Tryd.prog 41 [.string s] Fr w []
    (fun v L => L = [] ∧ ((∃ n, numR s = some n ∧ v = .tuple #[.int .i64 n, .bool true]) ∨ (numR s = none ∧ v = .tuple #[.int .i64 0, .bool false]))) := by
  refine Tri.of 20 Tryd.func41 rfl (by kernel_rfl) tabOk rfl rfl ?_
  (repeat (first | refine VC.seq ?_ | refine VC.region ?_ | refine VC.block ?_ | refine VC.label ?_ | refine VC.scope ?_ | refine VO.go (VO.nil ?_) | refine VO.go (VO.ld 0 rfl rfl rfl rfl ?_)))
  refine VO.go (VO.call (Lc := []) (fun Fr w hF hw _ => atoi_spec Fr w s (by omega) (GlobF.st (X := ⟨Tryd.prog, tab, tabOk, 20, _, _⟩) h hF hw)) rfl rfl ?_)
  rintro _ _ ⟨rfl, ⟨n, hn, rfl⟩ | ⟨n, tp, p, hn, rfl⟩⟩
  · have hr := numOf_range hn
    (repeat (first | refine VC.seq ?_ | refine VC.region ?_ | refine VC.block ?_ | refine VC.label ?_ | refine VC.scope ?_ | refine VO.go (VO.nil ?_) | refine VO.go (VO.ld 0 rfl rfl rfl rfl ?_)))
    refine VO.go (VO.light (light_neNil (r := false) Tryd.underlying59 rfl (.inl ⟨rfl, rfl⟩)) ?_)
    (repeat (first | refine VC.seq ?_ | refine VC.region ?_ | refine VC.block ?_ | refine VC.label ?_ | refine VC.scope ?_ | refine VO.go (VO.nil ?_) | refine VO.go (VO.ld 0 rfl rfl rfl rfl ?_)))
    refine VO.go (VO.yes 13 false rfl rfl ?_)
    (repeat (first | refine VC.seq ?_ | refine VC.region ?_ | refine VC.block ?_ | refine VC.label ?_ | refine VC.scope ?_ | refine VO.go (VO.nil ?_) | refine VO.go (VO.ld 0 rfl rfl rfl rfl ?_) | refine VO.go (VO.offU rfl rfl rfl ?_)))
    refine VO.go (VO.callV' (fun Fr w hF hw _ => itoa_spec Fr w n hr.1 hr.2 (TabF.st rfl h.tab hF hw)) rfl ?_)
    (repeat (first | refine VC.seq ?_ | refine VC.region ?_ | refine VC.block ?_ | refine VC.label ?_ | refine VC.scope ?_ | refine VO.go (VO.nil ?_) | refine VO.go (VO.ld 0 rfl rfl rfl rfl ?_) | refine VO.go (VO.offU rfl rfl rfl ?_)))
    refine VC.cond rfl (fun h1 => ?_) (fun h1 => VC.skip ?_)
    · rw [strEq] at h1
      have h1 : numT n ≠ s := by simpa using h1
      (repeat (first | refine VC.seq ?_ | refine VC.region ?_ | refine VC.block ?_ | refine VC.label ?_ | refine VC.scope ?_ | refine VO.go (VO.nil ?_) | refine VO.go (VO.ld 0 rfl rfl rfl rfl ?_)))
      exact VC.ret (Ret.tmp2 2 3 rfl rfl rfl Ent.refl ⟨rfl, .inr ⟨by unfold numR; rw [hn]; exact if_neg h1, rfl⟩⟩)
    · rw [strEq] at h1
      have h1 : numT n = s := by simpa using h1
      (repeat (first | refine VC.seq ?_ | refine VC.region ?_ | refine VC.block ?_ | refine VC.label ?_ | refine VC.scope ?_ | refine VO.go (VO.nil ?_) | refine VO.go (VO.ld 0 rfl rfl rfl rfl ?_)))
      exact VC.ret (Ret.tmp2 2 3 rfl rfl rfl Ent.refl ⟨rfl, .inl ⟨n, by unfold numR; rw [hn]; exact if_pos h1, rfl⟩⟩)
  · (repeat (first | refine VC.seq ?_ | refine VC.region ?_ | refine VC.block ?_ | refine VC.label ?_ | refine VC.scope ?_ | refine VO.go (VO.nil ?_) | refine VO.go (VO.ld 0 rfl rfl rfl rfl ?_)))
    refine VO.go (VO.light (light_neNil (r := true) Tryd.underlying59 rfl (.inr ⟨_, _, rfl, rfl⟩)) ?_)
    (repeat (first | refine VC.seq ?_ | refine VC.region ?_ | refine VC.block ?_ | refine VC.label ?_ | refine VC.scope ?_ | refine VO.go (VO.nil ?_) | refine VO.go (VO.ld 0 rfl rfl rfl rfl ?_)))
    refine VO.go (VO.yes 13 true rfl rfl ?_)
    (repeat (first | refine VC.seq ?_ | refine VC.region ?_ | refine VC.block ?_ | refine VC.label ?_ | refine VC.scope ?_ | refine VO.go (VO.nil ?_) | refine VO.go (VO.ld 0 rfl rfl rfl rfl ?_) | refine VO.go (VO.offU rfl rfl rfl ?_)))
    refine VC.condT rfl ?_
    (repeat (first | refine VC.seq ?_ | refine VC.region ?_ | refine VC.block ?_ | refine VC.label ?_ | refine VC.scope ?_ | refine VO.go (VO.nil ?_) | refine VO.go (VO.ld 0 rfl rfl rfl rfl ?_)))
    exact VC.ret (Ret.tmp2 2 3 rfl rfl rfl Ent.refl ⟨rfl, .inr ⟨by unfold numR; rw [hn], rfl⟩⟩)

/-! ### The words of a line, one after the other -/
def sC (s : ByteArray) : List Value := [.string s]
def rdL (p : Nat) (bad : Bool) (r : RL ByteArray) : List HP := [pt p [r.v, .bool bad] 73, r.h 9]
def rdH (p : Nat) (ws : List ByteArray) (bad : Bool) : HP := hex fun r : RL ByteArray => hsep (hpure (r.Ok sC 1 ∧ r.xs = ws) :: rdL p bad r)
theorem HOpn.rd (p : Nat) (ws : List ByteArray) (bad : Bool) : HOpn (ι := RL ByteArray) (rdH p ws bad) (fun r => r.Ok sC 1 ∧ r.xs = ws) (rdL p bad) := fun w ids ⟨x, i, G, hG, ⟨hi, hφ⟩, h⟩ hn => by
  subst hi
  simp only [List.nil_append] at hG
  subst hG
  exact ⟨x, hφ, ids, h, hn, fun _ h => h⟩
theorem Imp.rd {L M : List HP} {p : Nat} {ws : List ByteArray} {bad : Bool} (r : RL ByteArray) (hok : r.Ok sC 1) (hx : r.xs = ws) (h : Imp L (rdL p bad r ++ M)) : Imp L (rdH p ws bad :: M) :=
  Imp.ex (f := fun r : RL ByteArray => hsep (hpure (r.Ok sC 1 ∧ r.xs = ws) :: rdL p bad r)) r (Imp.sep (Ls := hpure (r.Ok sC 1 ∧ r.xs = ws) :: rdL p bad r) (Imp.pure ⟨hok, hx⟩ h))

set_option maxRecDepth 100000 in
theorem word_spec (Fr : Nat → Prop) (w : World) (p : Nat) (ws : List ByteArray) (bad : Bool) :
    Tri Tryd.prog 30 [.pointer (some ⟨p, 0, none⟩)] Fr w [rdH p ws bad] (fun v L => v = .string (ws.headD nilB) ∧ L = [rdH p ws.tail (bad || ws.isEmpty)]) := by
  refine Tri.of 28 Tryd.func30 rfl (by kernel_rfl) tabOk rfl rfl ?_
  refine VC.opn 0 rfl (HOpn.rd p ws bad) ?_
  rintro r ⟨hok, rfl⟩
  cases hx : r.xs with
  | nil =>
    have hrv : r.v = .slice r.addr 0 r.cap := by rw [RL.v, hx]; rfl
    unfold rdL
    rw [hrv]
    (repeat (first | refine VC.seq ?_ | refine VC.region ?_ | refine VC.block ?_ | refine VC.label ?_ | refine VC.scope ?_ | refine VO.go (VO.nil ?_) | refine VO.go (VO.ld 0 rfl rfl rfl rfl ?_)))
    refine VC.condT rfl ?_
    (repeat (first | refine VC.seq ?_ | refine VC.region ?_ | refine VC.block ?_ | refine VC.label ?_ | refine VC.scope ?_ | refine VO.go (VO.nil ?_) | refine VO.go (VO.ld 0 rfl rfl rfl rfl ?_)))
    refine VO.go (VO.st 0 (cs' := [.slice r.addr 0 r.cap, .bool true]) rfl rfl rfl rfl (Nat.le_of_ble_eq_true rfl) rfl rfl ?_)
    (repeat (first | refine VC.seq ?_ | refine VC.region ?_ | refine VC.block ?_ | refine VC.label ?_ | refine VC.scope ?_ | refine VO.go (VO.nil ?_) | refine VO.go (VO.ld 0 rfl rfl rfl rfl ?_)))
    refine VC.ret (Ret.tmp 2 rfl rfl (Imp.rd (p := p) (bad := true) (M := []) r hok hx ?_).ent ⟨rfl, by simp⟩)
    unfold rdL; rw [hrv]
    exact Imp.pick 0 rfl (Imp.pick 0 rfl Imp.nil)
  | cons x xs =>
    obtain ⟨b, off, e1, e2, hrd⟩ := hok.ld (k := 0) (x := x) (by rw [hx]; rfl) rfl
    have hroom := hok.room
    rw [hx] at hroom
    have hrv : r.v = .slice (some ⟨b, off, none⟩) (xs.length + 1) r.cap := by rw [RL.v, hx, e2]; rfl
    have hok2 := hok.tail (by rw [hx]; simp)
    have hx2 : (r.tail 1).xs = xs := by show r.xs.tail = xs; rw [hx]; rfl
    have hrv2 : (r.tail 1).v = .slice (some (if r.cap = 1 then ⟨b, off, none⟩ else ⟨b, off + 1, none⟩)) xs.length (r.cap - 1) := by
      rw [RL.v, hx2]; simp only [RL.tail, e2]
    unfold rdL
    rw [hrv]
    (repeat (first | refine VC.seq ?_ | refine VC.region ?_ | refine VC.block ?_ | refine VC.label ?_ | refine VC.scope ?_ | refine VO.go (VO.nil ?_) | refine VO.go (VO.ld 0 rfl rfl rfl rfl ?_)))
    refine VC.condF (by simp [Vg.ev, Vg.look]; omega) (VC.skip ?_)
    (repeat (first | refine VC.seq ?_ | refine VC.region ?_ | refine VC.block ?_ | refine VC.label ?_ | refine VC.scope ?_ | refine VO.go (VO.nil ?_) | refine VO.go (VO.ld 0 rfl rfl rfl rfl ?_)))
    refine VO.go (VO.light (light_idx 0 rfl rfl rfl rfl rfl rfl (by omega)) ?_)
    refine VO.go (VO.load rfl rfl ((hrd 1 rfl).2 _ 0 _ rfl rfl) ?_)
    (repeat (first | refine VC.seq ?_ | refine VC.region ?_ | refine VC.block ?_ | refine VC.label ?_ | refine VC.scope ?_ | refine VO.go (VO.nil ?_) | refine VO.go (VO.ld 0 rfl rfl rfl rfl ?_)))
    refine VO.go (VO.light (light_tail rfl rfl rfl rfl rfl hroom) ?_)
    (repeat (first | refine VC.seq ?_ | refine VC.region ?_ | refine VC.block ?_ | refine VC.label ?_ | refine VC.scope ?_ | refine VO.go (VO.nil ?_) | refine VO.go (VO.ld 0 rfl rfl rfl rfl ?_)))
    refine VO.go (VO.st 0 (cs' := [(r.tail 1).v, .bool bad]) rfl rfl rfl rfl (Nat.le_of_ble_eq_true rfl) (by rw [hrv2]; rfl) rfl ?_)
    (repeat (first | refine VC.seq ?_ | refine VC.region ?_ | refine VC.block ?_ | refine VC.label ?_ | refine VC.scope ?_ | refine VO.go (VO.nil ?_) | refine VO.go (VO.ld 0 rfl rfl rfl rfl ?_)))
    refine VC.ret (Ret.tmp 2 rfl rfl (Imp.rd (p := p) (bad := bad) (M := []) (r.tail 1) hok2 hx2 ?_).ent ⟨rfl, by simp⟩)
    unfold rdL
    exact Imp.pick 0 rfl (Imp.pick 0 rfl Imp.nil)

set_option maxRecDepth 100000 in
theorem number_spec (Fr : Nat → Prop) (w : World) (p : Nat) (ws : List ByteArray) (bad : Bool) (hs : ∀ s ∈ ws, s.size ≤ 1000000) (h : GlobF Fr w) :
    Tri Tryd.prog 31 [.pointer (some ⟨p, 0, none⟩)] Fr w [rdH p ws bad] (fun v L => v = .int .i64 ((numR (ws.headD nilB)).getD 0) ∧ L = [rdH p ws.tail (bad || (numR (ws.headD nilB)).isNone)]) := by
  have hs0 : (ws.headD nilB).size ≤ 1000000 := by
    cases ws with
    | nil => decide
    | cons x xs => exact hs x (by simp)
  refine Tri.of 23 Tryd.func31 rfl (by kernel_rfl) tabOk rfl rfl ?_
  (repeat (first | refine VC.seq ?_ | refine VC.region ?_ | refine VC.block ?_ | refine VC.label ?_ | refine VC.scope ?_ | refine VO.go (VO.nil ?_) | refine VO.go (VO.ld 0 rfl rfl rfl rfl ?_)))
  refine VO.go (VO.call (Lc := [rdH p ws bad]) (Lr := []) (fun Fr w hF hw _ => word_spec Fr w p ws bad) rfl rfl ?_)
  rintro _ _ ⟨rfl, rfl⟩
  refine VO.go (VO.call (Lc := []) (fun Fr w hF hw _ => getNumber_spec Fr w (ws.headD nilB) hs0 (GlobF.st (X := ⟨Tryd.prog, tab, tabOk, 23, _, _⟩) h hF hw)) rfl rfl ?_)
  have hb : ∀ b : Bool, (ws.isEmpty = true → b = true) → (bad || ws.isEmpty || b) = (bad || b) := fun b hh => by
    cases hw : ws.isEmpty with
    | false => simp
    | true => rw [hh hw]; simp
  rintro _ _ ⟨rfl, ⟨n, hn, rfl⟩ | ⟨hn, rfl⟩⟩
  · have he : ws.isEmpty = false := by
      cases ws with
      | nil => rw [show ([] : List ByteArray).headD nilB = nilB from rfl, numR_nil] at hn; cases hn
      | cons x xs => rfl
    rw [hn, he, Bool.or_false]
    refine VO.opn 0 rfl (HOpn.rd p ws.tail bad) ?_
    rintro r ⟨hok, hx⟩
    unfold rdL
    (repeat (first | refine VC.seq ?_ | refine VC.region ?_ | refine VC.block ?_ | refine VC.label ?_ | refine VC.scope ?_ | refine VO.go (VO.nil ?_) | refine VO.go (VO.ld 0 rfl rfl rfl rfl ?_)))
    cases bad with
    | true =>
      refine VO.go (VO.yes 16 true rfl rfl ?_)
      (repeat (first | refine VC.seq ?_ | refine VC.region ?_ | refine VC.block ?_ | refine VC.label ?_ | refine VC.scope ?_ | refine VO.go (VO.nil ?_) | refine VO.go (VO.ld 0 rfl rfl rfl rfl ?_) | refine VO.go (VO.offU rfl rfl rfl ?_)))
      refine VO.go (VO.st 0 (cs' := [r.v, .bool true]) rfl rfl rfl rfl (Nat.le_of_ble_eq_true rfl) rfl rfl ?_)
      (repeat (first | refine VC.seq ?_ | refine VC.region ?_ | refine VC.block ?_ | refine VC.label ?_ | refine VC.scope ?_ | refine VO.go (VO.nil ?_) | refine VO.go (VO.ld 0 rfl rfl rfl rfl ?_)))
      exact VC.ret (Ret.tmp 2 rfl rfl (Imp.rd (p := p) (bad := true) (M := []) r hok hx (Imp.pick 0 rfl (Imp.pick 0 rfl Imp.nil))).ent ⟨rfl, rfl⟩)
    | false =>
      refine VO.go (VO.yes 16 false rfl rfl ?_)
      (repeat (first | refine VC.seq ?_ | refine VC.region ?_ | refine VC.block ?_ | refine VC.label ?_ | refine VC.scope ?_ | refine VO.go (VO.nil ?_) | refine VO.go (VO.ld 0 rfl rfl rfl rfl ?_) | refine VO.go (VO.offU rfl rfl rfl ?_)))
      refine VO.go (VO.st 0 (cs' := [r.v, .bool false]) rfl rfl rfl rfl (Nat.le_of_ble_eq_true rfl) rfl rfl ?_)
      (repeat (first | refine VC.seq ?_ | refine VC.region ?_ | refine VC.block ?_ | refine VC.label ?_ | refine VC.scope ?_ | refine VO.go (VO.nil ?_) | refine VO.go (VO.ld 0 rfl rfl rfl rfl ?_)))
      exact VC.ret (Ret.tmp 2 rfl rfl (Imp.rd (p := p) (bad := false) (M := []) r hok hx (Imp.pick 0 rfl (Imp.pick 0 rfl Imp.nil))).ent ⟨rfl, rfl⟩)
  · rw [hn]
    generalize (bad || ws.isEmpty) = bad2
    refine VO.opn 0 rfl (HOpn.rd p ws.tail bad2) ?_
    rintro r ⟨hok, hx⟩
    unfold rdL
    (repeat (first | refine VC.seq ?_ | refine VC.region ?_ | refine VC.block ?_ | refine VC.label ?_ | refine VC.scope ?_ | refine VO.go (VO.nil ?_) | refine VO.go (VO.ld 0 rfl rfl rfl rfl ?_)))
    cases bad2 with
    | true =>
      refine VO.go (VO.yes 16 true rfl rfl ?_)
      (repeat (first | refine VC.seq ?_ | refine VC.region ?_ | refine VC.block ?_ | refine VC.label ?_ | refine VC.scope ?_ | refine VO.go (VO.nil ?_) | refine VO.go (VO.ld 0 rfl rfl rfl rfl ?_) | refine VO.go (VO.offU rfl rfl rfl ?_)))
      refine VO.go (VO.st 0 (cs' := [r.v, .bool true]) rfl rfl rfl rfl (Nat.le_of_ble_eq_true rfl) rfl rfl ?_)
      (repeat (first | refine VC.seq ?_ | refine VC.region ?_ | refine VC.block ?_ | refine VC.label ?_ | refine VC.scope ?_ | refine VO.go (VO.nil ?_) | refine VO.go (VO.ld 0 rfl rfl rfl rfl ?_)))
      exact VC.ret (Ret.tmp 2 rfl rfl (Imp.rd (p := p) (bad := true) (M := []) r hok hx (Imp.pick 0 rfl (Imp.pick 0 rfl Imp.nil))).ent ⟨rfl, by simp⟩)
    | false =>
      refine VO.go (VO.yes 16 false rfl rfl ?_)
      (repeat (first | refine VC.seq ?_ | refine VC.region ?_ | refine VC.block ?_ | refine VC.label ?_ | refine VC.scope ?_ | refine VO.go (VO.nil ?_) | refine VO.go (VO.ld 0 rfl rfl rfl rfl ?_) | refine VO.go (VO.offU rfl rfl rfl ?_)))
      refine VO.go (VO.st 0 (cs' := [r.v, .bool true]) rfl rfl rfl rfl (Nat.le_of_ble_eq_true rfl) rfl rfl ?_)
      (repeat (first | refine VC.seq ?_ | refine VC.region ?_ | refine VC.block ?_ | refine VC.label ?_ | refine VC.scope ?_ | refine VO.go (VO.nil ?_) | refine VO.go (VO.ld 0 rfl rfl rfl rfl ?_)))
      exact VC.ret (Ret.tmp 2 rfl rfl (Imp.rd (p := p) (bad := true) (M := []) r hok hx (Imp.pick 0 rfl (Imp.pick 0 rfl Imp.nil))).ent ⟨rfl, by simp⟩)
theorem decT_nil : decT nilB = none := by decide +kernel
set_option maxRecDepth 100000 in
theorem text_spec (Fr : Nat → Prop) (w : World) (p : Nat) (ws : List ByteArray) (bad : Bool) (hs : ∀ s ∈ ws, s.size ≤ 1000000) :
    Tri Tryd.prog 32 [.pointer (some ⟨p, 0, none⟩)] Fr w [rdH p ws bad] (fun v L => v = .string ((decT (ws.headD nilB)).getD nilB) ∧ L = [rdH p ws.tail (bad || (decT (ws.headD nilB)).isNone)]) := by
  have hs0 : (ws.headD nilB).size ≤ 1000000 := by
    cases ws with
    | nil => decide
    | cons x xs => exact hs x (by simp)
  refine Tri.of 23 Tryd.func32 rfl (by kernel_rfl) tabOk rfl rfl ?_
  (repeat (first | refine VC.seq ?_ | refine VC.region ?_ | refine VC.block ?_ | refine VC.label ?_ | refine VC.scope ?_ | refine VO.go (VO.nil ?_) | refine VO.go (VO.ld 0 rfl rfl rfl rfl ?_)))
  refine VO.go (VO.call (Lc := [rdH p ws bad]) (Lr := []) (fun Fr w hF hw _ => word_spec Fr w p ws bad) rfl rfl ?_)
  rintro _ _ ⟨rfl, rfl⟩
  refine VO.go (VO.call (Lc := []) (fun Fr w hF hw _ => getText_spec Fr w (ws.headD nilB) hs0) rfl rfl ?_)
  have hb : ∀ b : Bool, (ws.isEmpty = true → b = true) → (bad || ws.isEmpty || b) = (bad || b) := fun b hh => by
    cases hw : ws.isEmpty with
    | false => simp
    | true => rw [hh hw]; simp
  rintro _ _ ⟨rfl, ⟨n, hn, rfl⟩ | ⟨hn, rfl⟩⟩
  · have he : ws.isEmpty = false := by
      cases ws with
      | nil => rw [show ([] : List ByteArray).headD nilB = nilB from rfl, decT_nil] at hn; cases hn
      | cons x xs => rfl
    rw [hn, he, Bool.or_false]
    refine VO.opn 0 rfl (HOpn.rd p ws.tail bad) ?_
    rintro r ⟨hok, hx⟩
    unfold rdL
    (repeat (first | refine VC.seq ?_ | refine VC.region ?_ | refine VC.block ?_ | refine VC.label ?_ | refine VC.scope ?_ | refine VO.go (VO.nil ?_) | refine VO.go (VO.ld 0 rfl rfl rfl rfl ?_)))
    cases bad with
    | true =>
      refine VO.go (VO.yes 16 true rfl rfl ?_)
      (repeat (first | refine VC.seq ?_ | refine VC.region ?_ | refine VC.block ?_ | refine VC.label ?_ | refine VC.scope ?_ | refine VO.go (VO.nil ?_) | refine VO.go (VO.ld 0 rfl rfl rfl rfl ?_) | refine VO.go (VO.offU rfl rfl rfl ?_)))
      refine VO.go (VO.st 0 (cs' := [r.v, .bool true]) rfl rfl rfl rfl (Nat.le_of_ble_eq_true rfl) rfl rfl ?_)
      (repeat (first | refine VC.seq ?_ | refine VC.region ?_ | refine VC.block ?_ | refine VC.label ?_ | refine VC.scope ?_ | refine VO.go (VO.nil ?_) | refine VO.go (VO.ld 0 rfl rfl rfl rfl ?_)))
      exact VC.ret (Ret.tmp 2 rfl rfl (Imp.rd (p := p) (bad := true) (M := []) r hok hx (Imp.pick 0 rfl (Imp.pick 0 rfl Imp.nil))).ent ⟨rfl, rfl⟩)
    | false =>
      refine VO.go (VO.yes 16 false rfl rfl ?_)
      (repeat (first | refine VC.seq ?_ | refine VC.region ?_ | refine VC.block ?_ | refine VC.label ?_ | refine VC.scope ?_ | refine VO.go (VO.nil ?_) | refine VO.go (VO.ld 0 rfl rfl rfl rfl ?_) | refine VO.go (VO.offU rfl rfl rfl ?_)))
      refine VO.go (VO.st 0 (cs' := [r.v, .bool false]) rfl rfl rfl rfl (Nat.le_of_ble_eq_true rfl) rfl rfl ?_)
      (repeat (first | refine VC.seq ?_ | refine VC.region ?_ | refine VC.block ?_ | refine VC.label ?_ | refine VC.scope ?_ | refine VO.go (VO.nil ?_) | refine VO.go (VO.ld 0 rfl rfl rfl rfl ?_)))
      exact VC.ret (Ret.tmp 2 rfl rfl (Imp.rd (p := p) (bad := false) (M := []) r hok hx (Imp.pick 0 rfl (Imp.pick 0 rfl Imp.nil))).ent ⟨rfl, rfl⟩)
  · rw [hn]
    generalize (bad || ws.isEmpty) = bad2
    refine VO.opn 0 rfl (HOpn.rd p ws.tail bad2) ?_
    rintro r ⟨hok, hx⟩
    unfold rdL
    (repeat (first | refine VC.seq ?_ | refine VC.region ?_ | refine VC.block ?_ | refine VC.label ?_ | refine VC.scope ?_ | refine VO.go (VO.nil ?_) | refine VO.go (VO.ld 0 rfl rfl rfl rfl ?_)))
    cases bad2 with
    | true =>
      refine VO.go (VO.yes 16 true rfl rfl ?_)
      (repeat (first | refine VC.seq ?_ | refine VC.region ?_ | refine VC.block ?_ | refine VC.label ?_ | refine VC.scope ?_ | refine VO.go (VO.nil ?_) | refine VO.go (VO.ld 0 rfl rfl rfl rfl ?_) | refine VO.go (VO.offU rfl rfl rfl ?_)))
      refine VO.go (VO.st 0 (cs' := [r.v, .bool true]) rfl rfl rfl rfl (Nat.le_of_ble_eq_true rfl) rfl rfl ?_)
      (repeat (first | refine VC.seq ?_ | refine VC.region ?_ | refine VC.block ?_ | refine VC.label ?_ | refine VC.scope ?_ | refine VO.go (VO.nil ?_) | refine VO.go (VO.ld 0 rfl rfl rfl rfl ?_)))
      exact VC.ret (Ret.tmp 2 rfl rfl (Imp.rd (p := p) (bad := true) (M := []) r hok hx (Imp.pick 0 rfl (Imp.pick 0 rfl Imp.nil))).ent ⟨rfl, by simp⟩)
    | false =>
      refine VO.go (VO.yes 16 false rfl rfl ?_)
      (repeat (first | refine VC.seq ?_ | refine VC.region ?_ | refine VC.block ?_ | refine VC.label ?_ | refine VC.scope ?_ | refine VO.go (VO.nil ?_) | refine VO.go (VO.ld 0 rfl rfl rfl rfl ?_) | refine VO.go (VO.offU rfl rfl rfl ?_)))
      refine VO.go (VO.st 0 (cs' := [r.v, .bool true]) rfl rfl rfl rfl (Nat.le_of_ble_eq_true rfl) rfl rfl ?_)
      (repeat (first | refine VC.seq ?_ | refine VC.region ?_ | refine VC.block ?_ | refine VC.label ?_ | refine VC.scope ?_ | refine VO.go (VO.nil ?_) | refine VO.go (VO.ld 0 rfl rfl rfl rfl ?_)))
      exact VC.ret (Ret.tmp 2 rfl rfl (Imp.rd (p := p) (bad := true) (M := []) r hok hx (Imp.pick 0 rfl (Imp.pick 0 rfl Imp.nil))).ent ⟨rfl, by simp⟩)
end Go.Proofs.YtceobomlmdmicaaDoor.Scr
