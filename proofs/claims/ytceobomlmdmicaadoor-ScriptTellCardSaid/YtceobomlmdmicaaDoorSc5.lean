/- Layer 24: a line is read. No condition but what the listed variables hold. -/
import Derived.Test.YtceobomlmdmicaaDoorSc4
namespace Go.Proofs.YtceobomlmdmicaaDoor.Scr
open Go Go.Proofs.YtceobomlmdmicaaDoor.Vg Go.Proofs.YtceobomlmdmicaaDoor.T Go.Proofs.YtceobomlmdmicaaDoor.Api Go.Proofs.YtceobomlmdmicaaDoor.LibC
set_option linter.unusedSimpArgs false
set_option linter.unusedVariables false
attribute [local irreducible] VO VC VA

def spB : ByteArray := ⟨#[32]⟩
def splitW (s : ByteArray) : List ByteArray := Lib.splitB spB 0 (Lib.countB s spB) s
theorem splitW_len (s : ByteArray) : (splitW s).length = Lib.countB s spB + 1 := Lib.splitB_all spB (by decide) 0 _ s rfl
theorem splitB_size (sep : ByteArray) : ∀ (k : Nat) (s : ByteArray), ∀ w ∈ Lib.splitB sep 0 k s, w.size ≤ s.size
  | 0, s, w, h => by rw [Lib.splitB_zero] at h; obtain rfl : w = s := by simpa using h
                     exact Nat.le_refl _
  | k + 1, s, w, h => by
    unfold Lib.splitB at h
    split at h
    · obtain rfl : w = s := by simpa using h
      exact Nat.le_refl _
    · rcases List.mem_cons.1 h with rfl | h
      · rw [ByteArray.size_extract]; omega
      · have := splitB_size sep k _ w h
        rw [ByteArray.size_extract] at this; omega
theorem splitW_size {s w : ByteArray} (h : w ∈ splitW s) : w.size ≤ s.size := splitB_size spB _ s w h
def kindTo (w : ByteArray) : Nat → Nat
  | 0 => 0
  | k + 1 => if toB (wordK (k + 1)) = w then k + 1 else kindTo w k
theorem kindTo_le (w : ByteArray) : ∀ k, kindTo w k ≤ k
  | 0 => Nat.le_refl _
  | k + 1 => by
    rw [kindTo]; split
    · exact Nat.le_refl _
    · exact Nat.le_succ_of_le (kindTo_le w k)
abbrev RdS : Type := DoM × List ByteArray × Bool
def takeN (f : DoM → Int → DoM) (x : RdS) : RdS := (f x.1 ((numR (x.2.1.headD nilB)).getD 0), x.2.1.tail, x.2.2 || (numR (x.2.1.headD nilB)).isNone)
def takeS (f : DoM → ByteArray → DoM) (x : RdS) : RdS := (f x.1 ((decT (x.2.1.headD nilB)).getD nilB), x.2.1.tail, x.2.2 || (decT (x.2.1.headD nilB)).isNone)
def sA (d : DoM) (n : Int) : DoM := { d with a := n }
def sB (d : DoM) (n : Int) : DoM := { d with b := n }
def sCc (d : DoM) (n : Int) : DoM := { d with c := n }
def sOk (d : DoM) (n : Int) : DoM := { d with op := { d.op with kind := n } }
def sOv (d : DoM) (n : Int) : DoM := { d with op := { d.op with version := n } }
def sKey (d : DoM) (s : ByteArray) : DoM := { d with op := { d.op with key := s } }
def sVal (d : DoM) (s : ByteArray) : DoM := { d with op := { d.op with value := s } }
def useR (x : RdS) (c : UInt8) : RdS :=
  if c = 97 then takeN sA x else if c = 98 then takeN sB x else if c = 99 then takeN sCc x
  else takeS sVal (takeS sKey (takeN sOv (takeN sOk x)))
def lineR (s : ByteArray) : Option DoM :=
  let k := kindTo ((splitW s).headD nilB) 11
  if k = 0 then none
  else
    let x := (usesK k).foldl useR ({ doZ with kind := k }, (splitW s).tail, false)
    if x.2.2 || !x.2.1.isEmpty then none else some x.1
theorem useR_sub (x : RdS) (c : UInt8) : ∀ w ∈ (useR x c).2.1, w ∈ x.2.1 := fun w h => by
  unfold useR at h
  split at h
  · exact List.mem_of_mem_tail h
  split at h
  · exact List.mem_of_mem_tail h
  split at h
  · exact List.mem_of_mem_tail h
  · exact List.mem_of_mem_tail (List.mem_of_mem_tail (List.mem_of_mem_tail (List.mem_of_mem_tail h)))

set_option maxRecDepth 100000 in
set_option maxHeartbeats 2000000 in
theorem getLine_spec (Fr : Nat → Prop) (w : World) (s : ByteArray) (hs : s.size ≤ 1000000) (hG : GlobF Fr w) (hK : KindsF Fr w) :
    Tri Tryd.prog 18 [.string s] Fr w [] (fun v L => L = [] ∧ ((∃ d, lineR s = some d ∧ v = .tuple #[.agg (doC d).toArray, .bool true]) ∨ (lineR s = none ∧ v = .tuple #[.agg (doC doZ).toArray, .bool false]))) := by
  have hwsz : ∀ x ∈ splitW s, x.size ≤ 1000000 := fun x hx => Nat.le_trans (splitW_size hx) hs
  have hwl := splitW_len s
  generalize hws : splitW s = ws at hwsz hwl
  have hflat : ws.map Value.string = flat sC ws ++ [] := by
    rw [List.append_nil]; clear hwl hwsz hws; induction ws with
    | nil => rfl
    | cons x ws ih => rw [flat_cons, ← ih]; rfl
  refine Tri.of 89 Tryd.func18 rfl (by kernel_rfl) tabOk rfl rfl ?_
  refine VC.seq (VC.region (VO.go (VO.alloc rfl fun rb => ?_)))
  (repeat (first | refine VC.seq ?_ | refine VC.region ?_ | refine VC.block ?_ | refine VC.label ?_ | refine VC.scope ?_ | refine VO.go (VO.nil ?_) | refine VO.go (VO.ld 0 rfl rfl rfl rfl ?_)))
  refine VO.go (VO.call (Lc := []) (fun Fr w hF hw _ => split_spec Fr w s spB (by omega) (by decide) (GlobF.st (X := ⟨Tryd.prog, tab, tabOk, 89, _, _⟩) hG hF hw)) rfl rfl ?_)
  rintro _ _ ⟨wb, rfl, rfl⟩
  rw [show Lib.splitB spB 0 (Lib.countB s spB) s = ws from hws, ← hwl, hflat]
  refine VO.go (VO.light (light_build (pv := [(0, .slice (some ⟨wb, 0, none⟩) ws.length ws.length)]) [.slice (some ⟨wb, 0, none⟩) ws.length ws.length, .bool false] rfl rfl rfl (by kernel_rfl) rfl) ?_)
  refine VO.go (VO.boxA (vs := [.slice (some ⟨wb, 0, none⟩) ws.length ws.length, .bool false]) rfl fun p => ?_)
  refine VO.ent (L' := [rdH p ws false, pt rb (doC doZ) 30]) (Imp.rd (RL.new sC wb ws.length ws []) (RL.new_ok (c := sC) (n := 1) (fun _ => rfl) (Nat.le_refl _)) rfl (Imp.pick 0 rfl (Imp.pick 0 rfl (Imp.pick 0 rfl Imp.nil)))).ent ?_
  (repeat (first | refine VC.seq ?_ | refine VC.region ?_ | refine VC.block ?_ | refine VC.label ?_ | refine VC.scope ?_ | refine VO.go (VO.nil ?_) | refine VO.go (VO.ld 0 rfl rfl rfl rfl ?_)))
  refine VO.go (VO.callAt 0 rfl (fun Fr w hF hw _ => word_spec Fr w p ws false) rfl (ψ := fun v H => v = .string (ws.headD nilB) ∧ H = rdH p ws.tail (false || ws.isEmpty)) (fun v L h => ⟨_, h.2, h.1, rfl⟩) ?_)
  rintro _ _ ⟨rfl, rfl⟩
  have hne : ws.isEmpty = false := by
    cases ws with
    | nil => simp at hwl
    | cons x ws => rfl
  rw [hne, Bool.false_or]
  have hlr : lineR s = (if kindTo (ws.headD nilB) 11 = 0 then none else if ((usesK (kindTo (ws.headD nilB) 11)).foldl useR ({ doZ with kind := kindTo (ws.headD nilB) 11 }, ws.tail, false)).2.2 || !((usesK (kindTo (ws.headD nilB) 11)).foldl useR ({ doZ with kind := kindTo (ws.headD nilB) 11 }, ws.tail, false)).2.1.isEmpty then none else some ((usesK (kindTo (ws.headD nilB) 11)).foldl useR ({ doZ with kind := kindTo (ws.headD nilB) 11 }, ws.tail, false)).1) := by
    unfold lineR; rw [hws]
  have htsz : ∀ x ∈ ws.tail, x.size ≤ 1000000 := fun x hx => hwsz x (List.mem_of_mem_tail hx)
  generalize ws.headD nilB = w0 at hlr ⊢
  generalize ws.tail = wt at hlr htsz ⊢
  (repeat (first | refine VC.seq ?_ | refine VC.region ?_ | refine VC.block ?_ | refine VC.label ?_ | refine VC.scope ?_ | refine VO.go (VO.nil ?_) | refine VO.go (VO.ld 0 rfl rfl rfl rfl ?_)))
  refine VC.loop (σ := Nat) (fun j => [(4, .pointer (some ⟨p, 0, none⟩)), (5, .string w0), (2, .pointer (some ⟨rb, 0, none⟩)), (6, .int .i64 ((j + 1 : Nat) : Int))]) (fun j => [rdH p wt false, pt rb (doC { doZ with kind := kindTo w0 j }) 30]) (fun j => j ≤ 11) (fun j => 11 - j) 0
    (Nat.zero_le _) (Sub.cons rfl (Sub.cons rfl (Sub.cons rfl (Sub.cons rfl (Sub.nil _))))) Ent.refl ?_
  intro j hj
  (repeat (first | refine VC.seq ?_ | refine VC.region ?_ | refine VC.block ?_ | refine VC.label ?_ | refine VC.scope ?_ | refine VO.go (VO.nil ?_) | refine VO.go (VO.ld 0 rfl rfl rfl rfl ?_)))
  refine VC.condP rfl (fun h1 => VC.skip ?_) (fun h1 => VC.exit ?_)
  · have hj2 : j + 1 ≤ 11 := by omega
    (repeat (first | refine VC.seq ?_ | refine VC.region ?_ | refine VC.block ?_ | refine VC.label ?_ | refine VC.scope ?_ | refine VO.go (VO.nil ?_) | refine VO.go (VO.ld 0 rfl rfl rfl rfl ?_)))
    refine VO.go (VO.light (light_idxA (j + 1) rfl rfl rfl rfl rfl rfl (by omega)) ?_)
    (repeat (first | refine VC.seq ?_ | refine VC.region ?_ | refine VC.block ?_ | refine VC.label ?_ | refine VC.scope ?_ | refine VO.go (VO.nil ?_) | refine VO.go (VO.ld 0 rfl rfl rfl rfl ?_)))
    refine VO.go (VO.load rfl rfl (RdL.blk hK (kinds_at (k := j + 1) (j := 0) (by omega) rfl)) ?_)
    (repeat (first | refine VC.seq ?_ | refine VC.region ?_ | refine VC.block ?_ | refine VC.label ?_ | refine VC.scope ?_ | refine VO.go (VO.nil ?_) | refine VO.go (VO.ld 0 rfl rfl rfl rfl ?_)))
    refine VC.cond rfl (fun h2 => ?_) (fun h2 => VC.skip ?_)
    · have h2 : toB (wordK (j + 1)) = w0 := by rw [strEq] at h2; exact of_decide_eq_true h2
      (repeat (first | refine VC.seq ?_ | refine VC.region ?_ | refine VC.block ?_ | refine VC.label ?_ | refine VC.scope ?_ | refine VO.go (VO.nil ?_) | refine VO.go (VO.ld 0 rfl rfl rfl rfl ?_)))
      refine VO.go (VO.st 1 (cs' := doC { doZ with kind := ((j + 1 : Nat) : Int) }) rfl rfl rfl rfl (Nat.le_of_ble_eq_true rfl) rfl rfl ?_)
      (repeat (first | refine VC.seq ?_ | refine VC.region ?_ | refine VC.block ?_ | refine VC.label ?_ | refine VC.scope ?_ | refine VO.go (VO.nil ?_) | refine VO.go (VO.ld 0 rfl rfl rfl rfl ?_)))
      refine VO.go (VO.add rfl rfl (by omega) (by omega) ?_)
      (repeat (first | refine VC.seq ?_ | refine VC.region ?_ | refine VC.block ?_ | refine VC.label ?_ | refine VC.scope ?_ | refine VO.go (VO.nil ?_) | refine VO.go (VO.ld 0 rfl rfl rfl rfl ?_)))
      refine ⟨j + 1, hj2, by dsimp only; omega, Sub.cons rfl (Sub.cons rfl (Sub.cons rfl (Sub.cons rfl (Sub.nil _)))), ?_⟩
      dsimp only
      rw [kindTo, if_pos h2]
      exact Ent.refl
    · have h2 : toB (wordK (j + 1)) ≠ w0 := by rw [strEq] at h2; exact of_decide_eq_false h2
      (repeat (first | refine VC.seq ?_ | refine VC.region ?_ | refine VC.block ?_ | refine VC.label ?_ | refine VC.scope ?_ | refine VO.go (VO.nil ?_) | refine VO.go (VO.ld 0 rfl rfl rfl rfl ?_)))
      refine VO.go (VO.add rfl rfl (by omega) (by omega) ?_)
      (repeat (first | refine VC.seq ?_ | refine VC.region ?_ | refine VC.block ?_ | refine VC.label ?_ | refine VC.scope ?_ | refine VO.go (VO.nil ?_) | refine VO.go (VO.ld 0 rfl rfl rfl rfl ?_)))
      refine ⟨j + 1, hj2, by dsimp only; omega, Sub.cons rfl (Sub.cons rfl (Sub.cons rfl (Sub.cons rfl (Sub.nil _)))), ?_⟩
      dsimp only
      rw [kindTo, if_neg h2]
      exact Ent.refl
  obtain rfl : j = 11 := by omega
  have hk11 := kindTo_le w0 11
  generalize kindTo w0 11 = k at hlr hk11 ⊢
  (repeat (first | refine VC.seq ?_ | refine VC.region ?_ | refine VC.block ?_ | refine VC.label ?_ | refine VC.scope ?_ | refine VO.go (VO.nil ?_) | refine VO.go (VO.ld 0 rfl rfl rfl rfl ?_) | refine VO.go (VO.ld 1 rfl rfl rfl rfl ?_)))
  refine VO.go (VO.callV (fun Fr w => isKind_spec Fr w (k : Int)) rfl ?_)
  (repeat (first | refine VC.seq ?_ | refine VC.region ?_ | refine VC.block ?_ | refine VC.label ?_ | refine VC.scope ?_ | refine VO.go (VO.nil ?_) | refine VO.go (VO.ld 0 rfl rfl rfl rfl ?_)))
  refine VC.condN rfl (fun h2 => ?_) (fun h2 => VC.skip ?_)
  · have hk0 : k = 0 := by simp [isK] at h2; omega
    rw [if_pos hk0] at hlr
    (repeat (first | refine VC.seq ?_ | refine VC.region ?_ | refine VC.block ?_ | refine VC.label ?_ | refine VC.scope ?_ | refine VO.go (VO.nil ?_) | refine VO.go (VO.ld 0 rfl rfl rfl rfl ?_)))
    refine VO.go (VO.light (light_build (pv := []) (doC doZ) rfl rfl rfl (by kernel_rfl) rfl) ?_)
    refine VO.go (VO.stA (vs := doC doZ) 1 rfl rfl rfl rfl (Nat.le_refl _) rfl rfl rfl ?_)
    (repeat (first | refine VC.seq ?_ | refine VC.region ?_ | refine VC.block ?_ | refine VC.label ?_ | refine VC.scope ?_ | refine VO.go (VO.nil ?_) | refine VO.go (VO.ld 0 rfl rfl rfl rfl ?_)))
    exact VC.ret (Ret.cellTmp 2 3 rfl rfl rfl (RdL.many (ds := doC doZ) 1 rfl rfl) rfl Imp.nil.ent ⟨rfl, .inr ⟨hlr, rfl⟩⟩)
  have hk1 : 1 ≤ k := by simp [isK] at h2; omega
  rw [if_neg (by omega)] at hlr
  have hul := word_len k (by omega)
  (repeat (first | refine VC.seq ?_ | refine VC.region ?_ | refine VC.block ?_ | refine VC.label ?_ | refine VC.scope ?_ | refine VO.go (VO.nil ?_) | refine VO.go (VO.ld 0 rfl rfl rfl rfl ?_) | refine VO.go (VO.ld 1 rfl rfl rfl rfl ?_)))
  refine VO.go (VO.light (light_idxA k rfl rfl rfl rfl rfl rfl (by omega)) ?_)
  (repeat (first | refine VC.seq ?_ | refine VC.region ?_ | refine VC.block ?_ | refine VC.label ?_ | refine VC.scope ?_ | refine VO.go (VO.nil ?_) | refine VO.go (VO.ld 0 rfl rfl rfl rfl ?_)))
  refine VO.go (VO.load rfl rfl (RdL.blk hK (kinds_at (k := k) (j := 1) (by omega) rfl)) ?_)
  refine VO.go (VO.opx (OpT.range Tryd.underlying9 rfl) ?_)
  rintro _ _ ⟨ib, rfl, rfl⟩
  (repeat (first | refine VC.seq ?_ | refine VC.region ?_ | refine VC.block ?_ | refine VC.label ?_ | refine VC.scope ?_ | refine VO.go (VO.nil ?_) | refine VO.go (VO.ld 0 rfl rfl rfl rfl ?_)))
  generalize hX0 : (({ doZ with kind := (k : Int) }, wt, false) : RdS) = X0 at hlr
  refine VC.loop (σ := Nat) (fun m => [(4, .pointer (some ⟨p, 0, none⟩)), (2, .pointer (some ⟨rb, 0, none⟩)), (37, .pointer (some ⟨ib, 0, none⟩))])
    (fun m => [rdH p (((usesK k).take m).foldl useR X0).2.1 (((usesK k).take m).foldl useR X0).2.2, pt rb (doC (((usesK k).take m).foldl useR X0).1) 30, itH ib (toB (usesK k)) m]) (fun m => m ≤ (usesK k).length ∧ ∀ x ∈ (((usesK k).take m).foldl useR X0).2.1, x.size ≤ 1000000) (fun m => (usesK k).length - m) 0
    ⟨Nat.zero_le _, by rw [← hX0]; exact htsz⟩ (Sub.cons rfl (Sub.cons rfl (Sub.cons rfl (Sub.nil _)))) ?_ ?_
  · rw [← hX0]
    exact (Imp.pick 1 rfl (Imp.pick 1 rfl (Imp.pick 0 rfl Imp.nil))).ent
  rintro m ⟨hm, hxs⟩
  by_cases hm2 : m < (usesK k).length
  · obtain ⟨c, hc⟩ : ∃ c, (usesK k)[m]? = some c := ⟨_, List.getElem?_eq_getElem hm2⟩
    have hc2 : (toB (usesK k)).data.toList[m]? = some c := by show (usesK k).toArray.toList[m]? = _; simpa using hc
    have htake : ((usesK k).take (m + 1)).foldl useR X0 = useR (((usesK k).take m).foldl useR X0) c := by rw [List.take_add_one, hc]; simp
    have hxs2 : ∀ x ∈ (((usesK k).take (m + 1)).foldl useR X0).2.1, x.size ≤ 1000000 := fun x hx => hxs x (by rw [htake] at hx; exact useR_sub _ _ x hx)
    generalize ((usesK k).take m).foldl useR X0 = x at htake hxs ⊢
    have hx0 : ∀ w ∈ x.2.1, w.size ≤ 1000000 := hxs
    rcases uses_ok k (by omega) c (List.mem_of_getElem? hc) with rfl | rfl | rfl | rfl
    · (repeat (first | refine VC.seq ?_ | refine VC.region ?_ | refine VC.block ?_ | refine VC.label ?_ | refine VC.scope ?_ | refine VO.go (VO.nil ?_) | refine VO.go (VO.ld 0 rfl rfl rfl rfl ?_)))
      refine VO.go (VO.op1 (OpT.nextB (c := 97) 2 rfl rfl (by rw [toB_size]; exact hm2) (decode_ascii hc2 (by decide))) ?_)
      (repeat (first | refine VC.seq ?_ | refine VC.region ?_ | refine VC.block ?_ | refine VC.label ?_ | refine VC.scope ?_ | refine VO.go (VO.nil ?_) | refine VO.go (VO.ld 0 rfl rfl rfl rfl ?_)))
      refine VC.condT rfl (VC.skip ?_)
      (repeat (first | refine VC.seq ?_ | refine VC.region ?_ | refine VC.block ?_ | refine VC.label ?_ | refine VC.scope ?_ | refine VO.go (VO.nil ?_) | refine VO.go (VO.ld 0 rfl rfl rfl rfl ?_)))
      refine VC.condT rfl ?_
      (repeat (first | refine VC.seq ?_ | refine VC.region ?_ | refine VC.block ?_ | refine VC.label ?_ | refine VC.scope ?_ | refine VO.go (VO.nil ?_) | refine VO.go (VO.ld 0 rfl rfl rfl rfl ?_)))
      refine VO.go (VO.callAt 0 rfl (fun Fr w hF hw _ => number_spec Fr w p x.2.1 x.2.2 hx0 (GlobF.st (X := ⟨Tryd.prog, tab, tabOk, 89, _, _⟩) hG hF hw)) rfl (ψ := fun v H => v = .int .i64 ((numR (x.2.1.headD nilB)).getD 0) ∧ H = rdH p (takeN sA x).2.1 (takeN sA x).2.2) (fun v L h => ⟨_, h.2, h.1, rfl⟩) ?_)
      rintro _ _ ⟨rfl, rfl⟩
      (repeat (first | refine VC.seq ?_ | refine VC.region ?_ | refine VC.block ?_ | refine VC.label ?_ | refine VC.scope ?_ | refine VO.go (VO.nil ?_) | refine VO.go (VO.ld 0 rfl rfl rfl rfl ?_)))
      refine VO.go (VO.st 1 (cs' := doC (takeN sA x).1) rfl rfl rfl rfl (Nat.le_of_ble_eq_true rfl) rfl rfl ?_)
      (repeat (first | refine VC.seq ?_ | refine VC.region ?_ | refine VC.block ?_ | refine VC.label ?_ | refine VC.scope ?_ | refine VO.go (VO.nil ?_) | refine VO.go (VO.ld 0 rfl rfl rfl rfl ?_)))
      refine ⟨m + 1, ⟨hm2, hxs2⟩, by dsimp only; omega, Sub.cons rfl (Sub.cons rfl (Sub.cons rfl (Sub.nil _))), ?_⟩
      dsimp only
      rw [htake]
      exact Ent.refl
    · (repeat (first | refine VC.seq ?_ | refine VC.region ?_ | refine VC.block ?_ | refine VC.label ?_ | refine VC.scope ?_ | refine VO.go (VO.nil ?_) | refine VO.go (VO.ld 0 rfl rfl rfl rfl ?_)))
      refine VO.go (VO.op1 (OpT.nextB (c := 98) 2 rfl rfl (by rw [toB_size]; exact hm2) (decode_ascii hc2 (by decide))) ?_)
      (repeat (first | refine VC.seq ?_ | refine VC.region ?_ | refine VC.block ?_ | refine VC.label ?_ | refine VC.scope ?_ | refine VO.go (VO.nil ?_) | refine VO.go (VO.ld 0 rfl rfl rfl rfl ?_)))
      refine VC.condT rfl (VC.skip ?_)
      (repeat (first | refine VC.seq ?_ | refine VC.region ?_ | refine VC.block ?_ | refine VC.label ?_ | refine VC.scope ?_ | refine VO.go (VO.nil ?_) | refine VO.go (VO.ld 0 rfl rfl rfl rfl ?_)))
      refine VC.condF rfl ?_
      (repeat (first | refine VC.seq ?_ | refine VC.region ?_ | refine VC.block ?_ | refine VC.label ?_ | refine VC.scope ?_ | refine VO.go (VO.nil ?_) | refine VO.go (VO.ld 0 rfl rfl rfl rfl ?_)))
      refine VC.condT rfl ?_
      (repeat (first | refine VC.seq ?_ | refine VC.region ?_ | refine VC.block ?_ | refine VC.label ?_ | refine VC.scope ?_ | refine VO.go (VO.nil ?_) | refine VO.go (VO.ld 0 rfl rfl rfl rfl ?_)))
      refine VO.go (VO.callAt 0 rfl (fun Fr w hF hw _ => number_spec Fr w p x.2.1 x.2.2 hx0 (GlobF.st (X := ⟨Tryd.prog, tab, tabOk, 89, _, _⟩) hG hF hw)) rfl (ψ := fun v H => v = .int .i64 ((numR (x.2.1.headD nilB)).getD 0) ∧ H = rdH p (takeN sB x).2.1 (takeN sB x).2.2) (fun v L h => ⟨_, h.2, h.1, rfl⟩) ?_)
      rintro _ _ ⟨rfl, rfl⟩
      (repeat (first | refine VC.seq ?_ | refine VC.region ?_ | refine VC.block ?_ | refine VC.label ?_ | refine VC.scope ?_ | refine VO.go (VO.nil ?_) | refine VO.go (VO.ld 0 rfl rfl rfl rfl ?_)))
      refine VO.go (VO.st 1 (cs' := doC (takeN sB x).1) rfl rfl rfl rfl (Nat.le_of_ble_eq_true rfl) rfl rfl ?_)
      (repeat (first | refine VC.seq ?_ | refine VC.region ?_ | refine VC.block ?_ | refine VC.label ?_ | refine VC.scope ?_ | refine VO.go (VO.nil ?_) | refine VO.go (VO.ld 0 rfl rfl rfl rfl ?_)))
      refine ⟨m + 1, ⟨hm2, hxs2⟩, by dsimp only; omega, Sub.cons rfl (Sub.cons rfl (Sub.cons rfl (Sub.nil _))), ?_⟩
      dsimp only
      rw [htake]
      exact Ent.refl
    · (repeat (first | refine VC.seq ?_ | refine VC.region ?_ | refine VC.block ?_ | refine VC.label ?_ | refine VC.scope ?_ | refine VO.go (VO.nil ?_) | refine VO.go (VO.ld 0 rfl rfl rfl rfl ?_)))
      refine VO.go (VO.op1 (OpT.nextB (c := 99) 2 rfl rfl (by rw [toB_size]; exact hm2) (decode_ascii hc2 (by decide))) ?_)
      (repeat (first | refine VC.seq ?_ | refine VC.region ?_ | refine VC.block ?_ | refine VC.label ?_ | refine VC.scope ?_ | refine VO.go (VO.nil ?_) | refine VO.go (VO.ld 0 rfl rfl rfl rfl ?_)))
      refine VC.condT rfl (VC.skip ?_)
      (repeat (first | refine VC.seq ?_ | refine VC.region ?_ | refine VC.block ?_ | refine VC.label ?_ | refine VC.scope ?_ | refine VO.go (VO.nil ?_) | refine VO.go (VO.ld 0 rfl rfl rfl rfl ?_)))
      refine VC.condF rfl ?_
      (repeat (first | refine VC.seq ?_ | refine VC.region ?_ | refine VC.block ?_ | refine VC.label ?_ | refine VC.scope ?_ | refine VO.go (VO.nil ?_) | refine VO.go (VO.ld 0 rfl rfl rfl rfl ?_)))
      refine VC.condF rfl ?_
      (repeat (first | refine VC.seq ?_ | refine VC.region ?_ | refine VC.block ?_ | refine VC.label ?_ | refine VC.scope ?_ | refine VO.go (VO.nil ?_) | refine VO.go (VO.ld 0 rfl rfl rfl rfl ?_)))
      refine VC.condT rfl ?_
      (repeat (first | refine VC.seq ?_ | refine VC.region ?_ | refine VC.block ?_ | refine VC.label ?_ | refine VC.scope ?_ | refine VO.go (VO.nil ?_) | refine VO.go (VO.ld 0 rfl rfl rfl rfl ?_)))
      refine VO.go (VO.callAt 0 rfl (fun Fr w hF hw _ => number_spec Fr w p x.2.1 x.2.2 hx0 (GlobF.st (X := ⟨Tryd.prog, tab, tabOk, 89, _, _⟩) hG hF hw)) rfl (ψ := fun v H => v = .int .i64 ((numR (x.2.1.headD nilB)).getD 0) ∧ H = rdH p (takeN sCc x).2.1 (takeN sCc x).2.2) (fun v L h => ⟨_, h.2, h.1, rfl⟩) ?_)
      rintro _ _ ⟨rfl, rfl⟩
      (repeat (first | refine VC.seq ?_ | refine VC.region ?_ | refine VC.block ?_ | refine VC.label ?_ | refine VC.scope ?_ | refine VO.go (VO.nil ?_) | refine VO.go (VO.ld 0 rfl rfl rfl rfl ?_)))
      refine VO.go (VO.st 1 (cs' := doC (takeN sCc x).1) rfl rfl rfl rfl (Nat.le_of_ble_eq_true rfl) rfl rfl ?_)
      (repeat (first | refine VC.seq ?_ | refine VC.region ?_ | refine VC.block ?_ | refine VC.label ?_ | refine VC.scope ?_ | refine VO.go (VO.nil ?_) | refine VO.go (VO.ld 0 rfl rfl rfl rfl ?_)))
      refine ⟨m + 1, ⟨hm2, hxs2⟩, by dsimp only; omega, Sub.cons rfl (Sub.cons rfl (Sub.cons rfl (Sub.nil _))), ?_⟩
      dsimp only
      rw [htake]
      exact Ent.refl
    · (repeat (first | refine VC.seq ?_ | refine VC.region ?_ | refine VC.block ?_ | refine VC.label ?_ | refine VC.scope ?_ | refine VO.go (VO.nil ?_) | refine VO.go (VO.ld 0 rfl rfl rfl rfl ?_)))
      refine VO.go (VO.op1 (OpT.nextB (c := 111) 2 rfl rfl (by rw [toB_size]; exact hm2) (decode_ascii hc2 (by decide))) ?_)
      (repeat (first | refine VC.seq ?_ | refine VC.region ?_ | refine VC.block ?_ | refine VC.label ?_ | refine VC.scope ?_ | refine VO.go (VO.nil ?_) | refine VO.go (VO.ld 0 rfl rfl rfl rfl ?_)))
      refine VC.condT rfl (VC.skip ?_)
      (repeat (first | refine VC.seq ?_ | refine VC.region ?_ | refine VC.block ?_ | refine VC.label ?_ | refine VC.scope ?_ | refine VO.go (VO.nil ?_) | refine VO.go (VO.ld 0 rfl rfl rfl rfl ?_)))
      refine VC.condF rfl ?_
      (repeat (first | refine VC.seq ?_ | refine VC.region ?_ | refine VC.block ?_ | refine VC.label ?_ | refine VC.scope ?_ | refine VO.go (VO.nil ?_) | refine VO.go (VO.ld 0 rfl rfl rfl rfl ?_)))
      refine VC.condF rfl ?_
      (repeat (first | refine VC.seq ?_ | refine VC.region ?_ | refine VC.block ?_ | refine VC.label ?_ | refine VC.scope ?_ | refine VO.go (VO.nil ?_) | refine VO.go (VO.ld 0 rfl rfl rfl rfl ?_)))
      refine VC.condF rfl ?_
      (repeat (first | refine VC.seq ?_ | refine VC.region ?_ | refine VC.block ?_ | refine VC.label ?_ | refine VC.scope ?_ | refine VO.go (VO.nil ?_) | refine VO.go (VO.ld 0 rfl rfl rfl rfl ?_)))
      refine VC.condT rfl ?_
      (repeat (first | refine VC.seq ?_ | refine VC.region ?_ | refine VC.block ?_ | refine VC.label ?_ | refine VC.scope ?_ | refine VO.go (VO.nil ?_) | refine VO.go (VO.ld 0 rfl rfl rfl rfl ?_)))
      refine VO.go (VO.callAt 0 rfl (fun Fr w hF hw _ => number_spec Fr w p x.2.1 x.2.2 hx0 (GlobF.st (X := ⟨Tryd.prog, tab, tabOk, 89, _, _⟩) hG hF hw)) rfl (ψ := fun v H => v = .int .i64 ((numR (x.2.1.headD nilB)).getD 0) ∧ H = rdH p (takeN sOk x).2.1 (takeN sOk x).2.2) (fun v L h => ⟨_, h.2, h.1, rfl⟩) ?_)
      rintro _ _ ⟨rfl, rfl⟩
      (repeat (first | refine VC.seq ?_ | refine VC.region ?_ | refine VC.block ?_ | refine VC.label ?_ | refine VC.scope ?_ | refine VO.go (VO.nil ?_) | refine VO.go (VO.ld 0 rfl rfl rfl rfl ?_)))
      refine VO.go (VO.st 1 (cs' := doC (takeN sOk x).1) rfl rfl rfl rfl (Nat.le_of_ble_eq_true rfl) rfl rfl ?_)
      (repeat (first | refine VC.seq ?_ | refine VC.region ?_ | refine VC.block ?_ | refine VC.label ?_ | refine VC.scope ?_ | refine VO.go (VO.nil ?_) | refine VO.go (VO.ld 0 rfl rfl rfl rfl ?_)))
      generalize hgx1 : takeN sOk x = x1
      have hx1 : ∀ w ∈ x1.2.1, w.size ≤ 1000000 := fun w hw => hx0 w (by rw [← hgx1] at hw; exact List.mem_of_mem_tail hw)
      refine VO.go (VO.callAt 0 rfl (fun Fr w hF hw _ => number_spec Fr w p x1.2.1 x1.2.2 hx1 (GlobF.st (X := ⟨Tryd.prog, tab, tabOk, 89, _, _⟩) hG hF hw)) rfl (ψ := fun v H => v = .int .i64 ((numR (x1.2.1.headD nilB)).getD 0) ∧ H = rdH p (takeN sOv x1).2.1 (takeN sOv x1).2.2) (fun v L h => ⟨_, h.2, h.1, rfl⟩) ?_)
      rintro _ _ ⟨rfl, rfl⟩
      (repeat (first | refine VC.seq ?_ | refine VC.region ?_ | refine VC.block ?_ | refine VC.label ?_ | refine VC.scope ?_ | refine VO.go (VO.nil ?_) | refine VO.go (VO.ld 0 rfl rfl rfl rfl ?_)))
      refine VO.go (VO.st 1 (cs' := doC (takeN sOv x1).1) rfl rfl rfl rfl (Nat.le_of_ble_eq_true rfl) rfl rfl ?_)
      (repeat (first | refine VC.seq ?_ | refine VC.region ?_ | refine VC.block ?_ | refine VC.label ?_ | refine VC.scope ?_ | refine VO.go (VO.nil ?_) | refine VO.go (VO.ld 0 rfl rfl rfl rfl ?_)))
      generalize hgx2 : takeN sOv x1 = x2
      have hx2 : ∀ w ∈ x2.2.1, w.size ≤ 1000000 := fun w hw => hx1 w (by rw [← hgx2] at hw; exact List.mem_of_mem_tail hw)
      refine VO.go (VO.callAt 0 rfl (fun Fr w hF hw _ => text_spec Fr w p x2.2.1 x2.2.2 hx2) rfl (ψ := fun v H => v = .string ((decT (x2.2.1.headD nilB)).getD nilB) ∧ H = rdH p (takeS sKey x2).2.1 (takeS sKey x2).2.2) (fun v L h => ⟨_, h.2, h.1, rfl⟩) ?_)
      rintro _ _ ⟨rfl, rfl⟩
      (repeat (first | refine VC.seq ?_ | refine VC.region ?_ | refine VC.block ?_ | refine VC.label ?_ | refine VC.scope ?_ | refine VO.go (VO.nil ?_) | refine VO.go (VO.ld 0 rfl rfl rfl rfl ?_)))
      refine VO.go (VO.st 1 (cs' := doC (takeS sKey x2).1) rfl rfl rfl rfl (Nat.le_of_ble_eq_true rfl) rfl rfl ?_)
      (repeat (first | refine VC.seq ?_ | refine VC.region ?_ | refine VC.block ?_ | refine VC.label ?_ | refine VC.scope ?_ | refine VO.go (VO.nil ?_) | refine VO.go (VO.ld 0 rfl rfl rfl rfl ?_)))
      generalize hgx3 : takeS sKey x2 = x3
      have hx3 : ∀ w ∈ x3.2.1, w.size ≤ 1000000 := fun w hw => hx2 w (by rw [← hgx3] at hw; exact List.mem_of_mem_tail hw)
      refine VO.go (VO.callAt 0 rfl (fun Fr w hF hw _ => text_spec Fr w p x3.2.1 x3.2.2 hx3) rfl (ψ := fun v H => v = .string ((decT (x3.2.1.headD nilB)).getD nilB) ∧ H = rdH p (takeS sVal x3).2.1 (takeS sVal x3).2.2) (fun v L h => ⟨_, h.2, h.1, rfl⟩) ?_)
      rintro _ _ ⟨rfl, rfl⟩
      (repeat (first | refine VC.seq ?_ | refine VC.region ?_ | refine VC.block ?_ | refine VC.label ?_ | refine VC.scope ?_ | refine VO.go (VO.nil ?_) | refine VO.go (VO.ld 0 rfl rfl rfl rfl ?_)))
      refine VO.go (VO.st 1 (cs' := doC (takeS sVal x3).1) rfl rfl rfl rfl (Nat.le_of_ble_eq_true rfl) rfl rfl ?_)
      (repeat (first | refine VC.seq ?_ | refine VC.region ?_ | refine VC.block ?_ | refine VC.label ?_ | refine VC.scope ?_ | refine VO.go (VO.nil ?_) | refine VO.go (VO.ld 0 rfl rfl rfl rfl ?_)))
      refine ⟨m + 1, ⟨hm2, hxs2⟩, by dsimp only; omega, Sub.cons rfl (Sub.cons rfl (Sub.cons rfl (Sub.nil _))), ?_⟩
      dsimp only
      rw [htake, show useR x 111 = takeS sVal x3 by rw [← hgx3, ← hgx2, ← hgx1]; rfl]
      exact Ent.refl
  · obtain rfl : m = (usesK k).length := by omega
    rw [List.take_length, show itH ib (toB (usesK k)) (usesK k).length = itH ib (toB (usesK k)) (toB (usesK k)).size by rw [toB_size]]
    generalize (usesK k).foldl useR X0 = x at hlr ⊢
    (repeat (first | refine VC.seq ?_ | refine VC.region ?_ | refine VC.block ?_ | refine VC.label ?_ | refine VC.scope ?_ | refine VO.go (VO.nil ?_) | refine VO.go (VO.ld 0 rfl rfl rfl rfl ?_)))
    refine VO.go (VO.op1 (OpT.nextN 2 rfl rfl) ?_)
    (repeat (first | refine VC.seq ?_ | refine VC.region ?_ | refine VC.block ?_ | refine VC.label ?_ | refine VC.scope ?_ | refine VO.go (VO.nil ?_) | refine VO.go (VO.ld 0 rfl rfl rfl rfl ?_)))
    refine VC.condF rfl (VC.exit ?_)
    refine VC.opn 0 rfl (HOpn.rd p x.2.1 x.2.2) ?_
    rintro r ⟨hok, hx⟩
    unfold rdL
    (repeat (first | refine VC.seq ?_ | refine VC.region ?_ | refine VC.block ?_ | refine VC.label ?_ | refine VC.scope ?_ | refine VO.go (VO.nil ?_) | refine VO.go (VO.ld 0 rfl rfl rfl rfl ?_)))
    cases hbad : x.2.2 with
    | true =>
      rw [hbad] at hlr
      refine VO.go (VO.yes 79 true rfl rfl ?_)
      (repeat (first | refine VC.seq ?_ | refine VC.region ?_ | refine VC.block ?_ | refine VC.label ?_ | refine VC.scope ?_ | refine VO.go (VO.nil ?_) | refine VO.go (VO.ld 0 rfl rfl rfl rfl ?_) | refine VO.go (VO.offU rfl rfl rfl ?_)))
      refine VC.condT rfl ?_
      (repeat (first | refine VC.seq ?_ | refine VC.region ?_ | refine VC.block ?_ | refine VC.label ?_ | refine VC.scope ?_ | refine VO.go (VO.nil ?_) | refine VO.go (VO.ld 0 rfl rfl rfl rfl ?_)))
      refine VO.go (VO.light (light_build (pv := []) (doC doZ) rfl rfl rfl (by kernel_rfl) rfl) ?_)
      refine VO.go (VO.stA (vs := doC doZ) 2 rfl rfl rfl rfl (Nat.le_refl _) rfl rfl rfl ?_)
      (repeat (first | refine VC.seq ?_ | refine VC.region ?_ | refine VC.block ?_ | refine VC.label ?_ | refine VC.scope ?_ | refine VO.go (VO.nil ?_) | refine VO.go (VO.ld 0 rfl rfl rfl rfl ?_)))
      exact VC.ret (Ret.cellTmp 2 3 rfl rfl rfl (RdL.many (ds := doC doZ) 2 rfl rfl) rfl Imp.nil.ent ⟨rfl, .inr ⟨by rw [hlr]; rfl, rfl⟩⟩)
    | false =>
      rw [hbad] at hlr
      refine VO.go (VO.yes 79 false rfl rfl ?_)
      (repeat (first | refine VC.seq ?_ | refine VC.region ?_ | refine VC.block ?_ | refine VC.label ?_ | refine VC.scope ?_ | refine VO.go (VO.nil ?_) | refine VO.go (VO.ld 0 rfl rfl rfl rfl ?_) | refine VO.go (VO.offU rfl rfl rfl ?_)))
      refine VC.condP (p := (0 : Int) < (r.xs.length : Int)) rfl (fun h3 => ?_) (fun h3 => VC.skip ?_)
      · have hne2 : x.2.1.isEmpty = false := by rw [← hx]; cases hr : r.xs with
          | nil => rw [hr] at h3; simp at h3
          | cons y ys => rfl
        rw [hne2] at hlr
        (repeat (first | refine VC.seq ?_ | refine VC.region ?_ | refine VC.block ?_ | refine VC.label ?_ | refine VC.scope ?_ | refine VO.go (VO.nil ?_) | refine VO.go (VO.ld 0 rfl rfl rfl rfl ?_)))
        refine VO.go (VO.light (light_build (pv := []) (doC doZ) rfl rfl rfl (by kernel_rfl) rfl) ?_)
        refine VO.go (VO.stA (vs := doC doZ) 2 rfl rfl rfl rfl (Nat.le_refl _) rfl rfl rfl ?_)
        (repeat (first | refine VC.seq ?_ | refine VC.region ?_ | refine VC.block ?_ | refine VC.label ?_ | refine VC.scope ?_ | refine VO.go (VO.nil ?_) | refine VO.go (VO.ld 0 rfl rfl rfl rfl ?_)))
        exact VC.ret (Ret.cellTmp 2 3 rfl rfl rfl (RdL.many (ds := doC doZ) 2 rfl rfl) rfl Imp.nil.ent ⟨rfl, .inr ⟨by rw [hlr]; rfl, rfl⟩⟩)
      · have hne2 : x.2.1.isEmpty = true := by rw [← hx]; cases hr : r.xs with
          | nil => rfl
          | cons y ys => rw [hr] at h3; simp at h3
        rw [hne2] at hlr
        (repeat (first | refine VC.seq ?_ | refine VC.region ?_ | refine VC.block ?_ | refine VC.label ?_ | refine VC.scope ?_ | refine VO.go (VO.nil ?_) | refine VO.go (VO.ld 0 rfl rfl rfl rfl ?_)))
        refine VO.go (VO.ldA 2 (doC x.1) rfl rfl rfl rfl ?_)
        refine VO.go (VO.stA (vs := doC x.1) 2 rfl rfl rfl rfl (Nat.le_refl _) rfl rfl rfl ?_)
        (repeat (first | refine VC.seq ?_ | refine VC.region ?_ | refine VC.block ?_ | refine VC.label ?_ | refine VC.scope ?_ | refine VO.go (VO.nil ?_) | refine VO.go (VO.ld 0 rfl rfl rfl rfl ?_)))
        exact VC.ret (Ret.cellTmp 2 3 rfl rfl rfl (RdL.many (ds := doC x.1) 2 rfl rfl) rfl Imp.nil.ent ⟨rfl, .inl ⟨x.1, by rw [hlr]; rfl, rfl⟩⟩)
end Go.Proofs.YtceobomlmdmicaaDoor.Scr
