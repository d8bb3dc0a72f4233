/- Meters: the table as a text. No condition but that no counter is great, and the table of powers of ten. -/
import Derived.Test.YtoinocihlfmnnaaDoorMet2
namespace Go.Proofs.YtoinocihlfmnnaaDoor.Met
open Go Go.Proofs.YtoinocihlfmnnaaDoor.Vg Go.Proofs.YtoinocihlfmnnaaDoor.T Go.Proofs.YtoinocihlfmnnaaDoor.Api Go.Proofs.YtoinocihlfmnnaaDoor.Cnt Go.Proofs.YtoinocihlfmnnaaDoor.LibC
set_option linter.unusedSimpArgs false
set_option linter.unusedVariables false
attribute [local irreducible] VO VC VA

def sp : ByteArray := ⟨#[32]⟩
def nl : ByteArray := ⟨#[10]⟩
def wClass : ByteArray := ⟨#[99, 108, 97, 115, 115]⟩
def wCalls : ByteArray := ⟨#[99, 97, 108, 108, 115]⟩
def wBytes : ByteArray := ⟨#[98, 121, 116, 101, 115]⟩
def wShare : ByteArray := ⟨#[115, 104, 97, 114, 101]⟩
def wReplies : ByteArray := ⟨#[114, 101, 112, 108, 105, 101, 115]⟩
def wRefused : ByteArray := ⟨#[114, 101, 102, 117, 115, 101, 100]⟩
def lineT (xs : List ByteArray) : ByteArray := joinT xs sp ++ nl

theorem joinT_size (xs : List ByteArray) (s : ByteArray) : (joinT xs s).size = (Lib.join (xs.map (·.data.toList)) s.data.toList).length := by
  show (List.toArray _).size = _
  simp
theorem dec_len : ∀ u : Nat, (Lib.decDigits u).length ≤ u + 1 := by
  intro u
  induction u using Nat.strongRecOn with
  | _ u ih =>
    rw [Lib.decDigits]
    split
    · simp
    · have := ih (u / 10) (by omega)
      simp only [List.length_append, List.length_cons, List.length_nil]
      omega
theorem num_size {n : Int} (h0 : 0 ≤ n) (h1 : n ≤ 1000000) : (numT n).size ≤ 1000001 := by
  have h2 : (numT n).size = (Lib.itoa n).length := by show (List.toArray _).size = _; simp
  rw [h2, Lib.itoa, if_neg (by omega)]
  have := dec_len n.toNat
  omega
theorem join_cons2 (x y : List UInt8) (r : List (List UInt8)) (s : List UInt8) : (Lib.join (x :: y :: r) s).length = x.length + s.length + (Lib.join (y :: r) s).length := by
  rw [Lib.join_cons, Lib.join_cons]; simp [Lib.joinTail]; omega
theorem tl_size (s : ByteArray) : s.data.toList.length = s.size := by show s.data.toList.length = s.data.size; simp
theorem join_size1 (x s : ByteArray) : (joinT [x] s).size = x.size := by rw [joinT_size, List.map_cons, List.map_nil, Lib.join_one, tl_size]
theorem join_size2 (x y : ByteArray) (r : List ByteArray) (s : ByteArray) : (joinT (x :: y :: r) s).size = x.size + s.size + (joinT (y :: r) s).size := by
  rw [joinT_size, joinT_size, List.map_cons, List.map_cons, join_cons2, tl_size, tl_size]

theorem line_spec (Fr : Nat → Prop) (w : World) {b n : Nat} (xs : List ByteArray) {cs : List Value} (hB : Blk Fr w b cs) (hcs : cs = xs.map fun x => Value.string x) (hn : xs.length = n) (hN : n ≤ 1000) (hlen : (joinT xs sp).size ≤ 1000000000) :
    Tri Tryd.prog 41 [.slice (some ⟨b, 0, none⟩) n n] Fr w [] (fun v L => v = .string (lineT xs) ∧ L = []) := by
  subst hn
  have hlen' := hlen
  rw [joinT_size] at hlen'
  refine Tri.of 6 Tryd.func41 rfl (by kernel_rfl) tabOk rfl rfl ?_
  (repeat (first | refine VC.seq ?_ | refine VC.region ?_ | refine VC.block ?_ | refine VC.label ?_ | refine VC.scope ?_ | refine VO.go (VO.nil ?_) | refine VO.go (VO.ld 0 rfl rfl rfl rfl ?_)))
  refine VO.go (VO.callV' (fun Fr w hF hs _ => by
    obtain ⟨t, fz, ht⟩ := (hB.of hF hs).at_
    refine join_spec Fr w b 0 xs.length xs sp (fun j x hx => ?_) (Array.getElem?_eq_some_iff.1 ht).1 (by omega) (Nat.le_refl _) (by omega)
    rw [cell_of_row w b (0 + j) cs.toArray t fz ht, hcs]; simp [hx]) rfl ?_)
  refine VO.go (VO.light (light_cat rfl rfl (by show (joinT xs sp).size + 1 ≤ _; omega)) ?_)
  (repeat (first | refine VC.seq ?_ | refine VC.region ?_ | refine VC.block ?_ | refine VC.label ?_ | refine VC.scope ?_ | refine VO.go (VO.nil ?_) | refine VO.go (VO.ld 0 rfl rfl rfl rfl ?_)))
  exact VC.ret (Ret.tmp 2 rfl rfl Ent.refl ⟨rfl, rfl⟩)

def clsL (M : MM) (i : Nat) : ByteArray := lineT [wClass, numT i, wCalls, numT (M.calls i), wBytes, numT (M.bytes i), wShare, numT (M.share i)]
def repL (M : MM) : ByteArray := lineT [wReplies, numT M.replies]
def refL (M : MM) (r : Int) : ByteArray := lineT [wRefused, numT r, numT (M.refused r)]
def txt1 (M : MM) : Nat → ByteArray
  | 0 => ⟨#[]⟩
  | n + 1 => txt1 M n ++ clsL M n
def txt2 (M : MM) : Nat → ByteArray
  | 0 => txt1 M M.c ++ repL M
  | n + 1 => if 0 < M.refused ((n + 1 : Nat) : Int) then txt2 M n ++ refL M ((n + 1 : Nat) : Int) else txt2 M n
def tableT (M : MM) : ByteArray := txt2 M 10

theorem nl_size : nl.size = 1 := rfl
theorem sp_size : sp.size = 1 := rfl
section
variable {M : MM} (hM : M.Ok)
include hM
theorem cls_size {i : Nat} (hi : i < M.c) : (joinT [wClass, numT i, wCalls, numT (M.calls i), wBytes, numT (M.bytes i), wShare, numT (M.share i)] sp).size ≤ 4000100 := by
  have h4 := hM.c4
  have h1 := num_size (n := i) (by omega) (by omega)
  have h2 := num_size (hM.calls i).1 (hM.calls i).2
  have h3 := num_size (hM.bytes i).1 (hM.bytes i).2
  have h5 := num_size (hM.share i).1 (by have := (hM.share i).2; omega)
  simp only [join_size2, join_size1, sp_size]
  have e1 : wClass.size = 5 := rfl
  have e2 : wCalls.size = 5 := rfl
  have e3 : wBytes.size = 5 := rfl
  have e4 : wShare.size = 5 := rfl
  omega
theorem clsL_size {i : Nat} (hi : i < M.c) : (clsL M i).size ≤ 4000101 := by
  have := cls_size hM hi
  rw [clsL, lineT, cat_size, nl_size]; omega
theorem rep_size : (joinT [wReplies, numT M.replies] sp).size ≤ 1000100 := by
  have h1 := num_size (hM.at_ (2 * M.c)).1 (hM.at_ (2 * M.c)).2
  simp only [join_size2, join_size1, sp_size]
  have e1 : wReplies.size = 7 := rfl
  show 7 + 1 + (numT (M.at_ (2 * M.c))).size ≤ _
  omega
theorem ref_size {r : Int} (h0 : 0 ≤ r) (h10 : r ≤ 10) : (joinT [wRefused, numT r, numT (M.refused r)] sp).size ≤ 2000100 := by
  have h1 := num_size (n := r) (by omega) (by omega)
  have h2 := num_size (hM.refused r).1 (hM.refused r).2
  simp only [join_size2, join_size1, sp_size]
  have e1 : wRefused.size = 7 := rfl
  omega
theorem txt1_size : ∀ n : Nat, n ≤ M.c → (txt1 M n).size ≤ n * 4000101
  | 0, _ => by
    have e : (txt1 M 0).size = 0 := rfl
    rw [e]; exact Nat.zero_le _
  | n + 1, h => by
    have h1 := txt1_size n (by omega)
    have h2 := clsL_size hM (i := n) (by omega)
    rw [txt1, cat_size]; omega
theorem txt2_size (n : Nat) (hn : n ≤ 10) : (txt2 M n).size ≤ 20000000 + n * 2000101 := by
  induction n with
  | zero =>
    have h1 := txt1_size hM M.c (Nat.le_refl _)
    have h2 := rep_size hM
    have h4 := hM.c4
    have e : txt2 M 0 = txt1 M M.c ++ repL M := rfl
    rw [e, cat_size, repL, lineT, cat_size, nl_size]; omega
  | succ n ih =>
    have h1 := ih (by omega)
    have h2 := ref_size hM (r := ((n + 1 : Nat) : Int)) (by omega) (by omega)
    have e : txt2 M (n + 1) = if 0 < M.refused ((n + 1 : Nat) : Int) then txt2 M n ++ refL M ((n + 1 : Nat) : Int) else txt2 M n := rfl
    rw [e]
    by_cases h3 : 0 < M.refused ((n + 1 : Nat) : Int)
    · rw [if_pos h3]
      have e2 := cat_size (txt2 M n) (refL M ((n + 1 : Nat) : Int))
      have e3 : (refL M ((n + 1 : Nat) : Int)).size = _ := cat_size _ nl
      rw [nl_size] at e3
      omega
    · rw [if_neg h3]
      exact Nat.le_trans h1 (Nat.add_le_add_left (Nat.mul_le_mul_right _ (Nat.le_succ n)) _)
end

set_option maxRecDepth 100000 in
theorem table_spec (Fr : Nat → Prop) (w : World) {p : Nat} {M : MM} (hM : M.Ok) (hS : SatIn Fr [mtH p M] w) (hT : TabF Fr w) : Tri Tryd.prog 17 [.pointer (some ⟨p, 0, none⟩)] Fr w [] (fun v L => v = .string (tableT M) ∧ L = []) := by
  obtain ⟨q, r, h⟩ := MIn.sat hS
  have hb := h.box
  have hl := hM.len
  have hc4 := hM.c4
  refine Tri.of 58 Tryd.func17 rfl (by kernel_rfl) tabOk rfl rfl ?_
  (repeat (first | refine VC.seq ?_ | refine VC.region ?_ | refine VC.block ?_ | refine VC.label ?_ | refine VC.scope ?_ | refine VO.go (VO.nil ?_) | refine VO.go (VO.ld 0 rfl rfl rfl rfl ?_)))
  refine VO.go (VO.callV' (fun Fr w hF hs hS => made_spec Fr w (hb.of hF hs)) rfl ?_)
  (repeat (first | refine VC.seq ?_ | refine VC.region ?_ | refine VC.block ?_ | refine VC.label ?_ | refine VC.scope ?_ | refine VO.go (VO.nil ?_) | refine VO.go (VO.ld 0 rfl rfl rfl rfl ?_)))
  refine VC.condF rfl (VC.skip ?_)
  (repeat (first | refine VC.seq ?_ | refine VC.region ?_ | refine VC.block ?_ | refine VC.label ?_ | refine VC.scope ?_ | refine VO.go (VO.nil ?_) | refine VO.go (VO.ld 0 rfl rfl rfl rfl ?_)))
  refine VO.go (VO.allocB rfl fun b hB => ?_)
  refine VO.ent (L' := [txtH w.heap.size b ⟨#[]⟩]) (Imp.bld hB (by decide) Imp.refl).ent ?_
  (repeat (first | refine VC.seq ?_ | refine VC.region ?_ | refine VC.block ?_ | refine VC.label ?_ | refine VC.scope ?_ | refine VO.go (VO.nil ?_) | refine VO.go (VO.ld 0 rfl rfl rfl rfl ?_)))
  refine VC.loop (σ := Nat) (fun i => [(0, .pointer (some ⟨p, 0, none⟩)), (3, .pointer (some ⟨b, 0, none⟩)), (4, .int .i64 i)]) (fun i => [txtH w.heap.size b (txt1 M i)]) (fun i => i ≤ M.c) (fun i => M.c - i) 0 (Nat.zero_le _) (Sub.cons rfl (Sub.cons rfl (Sub.cons rfl (Sub.nil _)))) Ent.refl ?_
  intro i hi
  (repeat (first | refine VC.seq ?_ | refine VC.region ?_ | refine VC.block ?_ | refine VC.label ?_ | refine VC.scope ?_ | refine VO.go (VO.nil ?_) | refine VO.go (VO.load rfl rfl (RdL.blk hb rfl) ?_)))
  refine VC.condP rfl (fun h2 => VC.skip ?_) (fun h2 => VC.exit ?_)
  · have hi2 : i < M.c := by omega
    have k1 := hM.calls i
    have k2 := hM.bytes i
    have k3 := hM.share i
    have k4 := txt1_size hM i hi
    have k5 := cls_size hM hi2
    (repeat (first | refine VC.seq ?_ | refine VC.region ?_ | refine VC.block ?_ | refine VC.label ?_ | refine VC.scope ?_ | refine VO.go (VO.nil ?_) | refine VO.go (VO.ld 0 rfl rfl rfl rfl ?_)))
    refine VO.go (VO.callV' (fun Fr w hF hs _ => itoa_spec Fr w i (by omega) (by omega) (TabF.st rfl hT hF hs)) rfl ?_)
    refine VO.go (VO.callV' (fun Fr w hF hs _ => calls_spec Fr w hM (hS.of hF hs) i) rfl ?_)
    refine VO.go (VO.callV' (fun Fr w hF hs _ => itoa_spec Fr w (M.calls i) (by omega) (by omega) (TabF.st rfl hT hF hs)) rfl ?_)
    refine VO.go (VO.callV' (fun Fr w hF hs _ => bytes_spec Fr w hM (hS.of hF hs) i) rfl ?_)
    refine VO.go (VO.callV' (fun Fr w hF hs _ => itoa_spec Fr w (M.bytes i) (by omega) (by omega) (TabF.st rfl hT hF hs)) rfl ?_)
    refine VO.go (VO.callV' (fun Fr w hF hs _ => share_spec Fr w hM (hS.of hF hs) i) rfl ?_)
    refine VO.go (VO.callV' (fun Fr w hF hs _ => itoa_spec Fr w (M.share i) (by omega) (by omega) (TabF.st rfl hT hF hs)) rfl ?_)
    refine VO.go (VO.buildSlice [.string wClass, .string (numT i), .string wCalls, .string (numT (M.calls i)), .string wBytes, .string (numT (M.bytes i)), .string wShare, .string (numT (M.share i))] rfl rfl rfl rfl (by decide) rfl fun sl => ?_)
    refine VO.go (VO.callV' (fun Fr w hF hs hS => line_spec Fr w [wClass, numT i, wCalls, numT (M.calls i), wBytes, numT (M.bytes i), wShare, numT (M.share i)] (hS.blk 0 rfl) rfl rfl (Nat.le_of_ble_eq_true rfl) (by omega)) rfl ?_)
    refine VO.ent (L' := [txtH w.heap.size b (txt1 M i)]) (Imp.app (L := [_]) (M := []) Imp.nil Imp.refl).ent ?_
    have k6 := clsL_size hM hi2
    refine VO.go (VO.callBV (u := .tuple #[.int .i64 (clsL M i).size, .nilIface]) (L1 := [txtH w.heap.size b (txt1 M (i + 1))]) (fun w' hs => write_spec Fr w' w.heap.size b (txt1 M i) (clsL M i) hs.low (by omega)) rfl ?_)
    (repeat (first | refine VC.seq ?_ | refine VC.region ?_ | refine VC.block ?_ | refine VC.label ?_ | refine VC.scope ?_ | refine VO.go (VO.nil ?_) | refine VO.go (VO.ld 0 rfl rfl rfl rfl ?_)))
    refine VO.go (VO.add rfl rfl (by omega) (by omega) ?_)
    (repeat (first | refine VC.seq ?_ | refine VC.region ?_ | refine VC.block ?_ | refine VC.label ?_ | refine VC.scope ?_ | refine VO.go (VO.nil ?_) | refine VO.go (VO.ld 0 rfl rfl rfl rfl ?_)))
    exact ⟨i + 1, by show i + 1 ≤ M.c; omega, by dsimp only; omega, Sub.cons rfl (Sub.cons rfl (Sub.cons rfl (Sub.nil _))), Ent.refl⟩
  have hic : i = M.c := by omega
  subst hic
  have k1 := txt1_size hM M.c (Nat.le_refl _)
  have k2 := rep_size hM
  have k3 := hM.at_ (2 * M.c)
  (repeat (first | refine VC.seq ?_ | refine VC.region ?_ | refine VC.block ?_ | refine VC.label ?_ | refine VC.scope ?_ | refine VO.go (VO.nil ?_) | refine VO.go (VO.ld 0 rfl rfl rfl rfl ?_)))
  refine VO.go (VO.callV' (fun Fr w hF hs _ => replies_spec Fr w hM (hS.of hF hs)) rfl ?_)
  refine VO.go (VO.callV' (fun Fr w hF hs _ => itoa_spec Fr w M.replies (by show _ ≤ M.at_ (2 * M.c); omega) (by show M.at_ (2 * M.c) ≤ _; omega) (TabF.st rfl hT hF hs)) rfl ?_)
  refine VO.go (VO.buildSlice [.string wReplies, .string (numT M.replies)] rfl rfl rfl rfl (by decide) rfl fun sl => ?_)
  refine VO.go (VO.callV' (fun Fr w hF hs hS => line_spec Fr w [wReplies, numT M.replies] (hS.blk 0 rfl) rfl rfl (Nat.le_of_ble_eq_true rfl) (by omega)) rfl ?_)
  refine VO.ent (L' := [txtH w.heap.size b (txt1 M M.c)]) (Imp.app (L := [_]) (M := []) Imp.nil Imp.refl).ent ?_
  have k6 : (repL M).size ≤ 1000101 := by rw [repL, lineT, cat_size, nl_size]; omega
  refine VO.go (VO.callBV (u := .tuple #[.int .i64 (repL M).size, .nilIface]) (L1 := [txtH w.heap.size b (txt2 M 0)]) (fun w' hs => write_spec Fr w' w.heap.size b (txt1 M M.c) (repL M) hs.low (by omega)) rfl ?_)
  (repeat (first | refine VC.seq ?_ | refine VC.region ?_ | refine VC.block ?_ | refine VC.label ?_ | refine VC.scope ?_ | refine VO.go (VO.nil ?_) | refine VO.go (VO.ld 0 rfl rfl rfl rfl ?_)))
  refine VC.loop (σ := Nat) (fun i => [(0, .pointer (some ⟨p, 0, none⟩)), (3, .pointer (some ⟨b, 0, none⟩)), (5, .int .i64 ((i + 1 : Nat) : Int))]) (fun i => [txtH w.heap.size b (txt2 M i)]) (fun i => i ≤ 10) (fun i => 10 - i) 0 (Nat.zero_le _) (Sub.cons rfl (Sub.cons rfl (Sub.cons rfl (Sub.nil _)))) Ent.refl ?_
  intro i hi
  (repeat (first | refine VC.seq ?_ | refine VC.region ?_ | refine VC.block ?_ | refine VC.label ?_ | refine VC.scope ?_ | refine VO.go (VO.nil ?_) | refine VO.go (VO.ld 0 rfl rfl rfl rfl ?_)))
  have k7 := txt2_size hM i hi
  refine VC.condP rfl (fun h2 => VC.skip ?_) (fun h2 => VC.exit ?_)
  · have k8 := hM.refused ((i + 1 : Nat) : Int)
    (repeat (first | refine VC.seq ?_ | refine VC.region ?_ | refine VC.block ?_ | refine VC.label ?_ | refine VC.scope ?_ | refine VO.go (VO.nil ?_) | refine VO.go (VO.ld 0 rfl rfl rfl rfl ?_)))
    refine VO.go (VO.callV' (fun Fr w hF hs _ => refused_spec Fr w hM (hS.of hF hs) ((i + 1 : Nat) : Int)) rfl ?_)
    (repeat (first | refine VC.seq ?_ | refine VC.region ?_ | refine VC.block ?_ | refine VC.label ?_ | refine VC.scope ?_ | refine VO.go (VO.nil ?_) | refine VO.go (VO.ld 0 rfl rfl rfl rfl ?_)))
    refine VC.condP rfl (fun h3 => ?_) (fun h3 => VC.skip ?_)
    · have k9 := ref_size hM (r := ((i + 1 : Nat) : Int)) (by omega) (by omega)
      have e : txt2 M (i + 1) = txt2 M i ++ refL M ((i + 1 : Nat) : Int) := by rw [txt2, if_pos h3]
      (repeat (first | refine VC.seq ?_ | refine VC.region ?_ | refine VC.block ?_ | refine VC.label ?_ | refine VC.scope ?_ | refine VO.go (VO.nil ?_) | refine VO.go (VO.ld 0 rfl rfl rfl rfl ?_)))
      refine VO.go (VO.callV' (fun Fr w hF hs _ => itoa_spec Fr w ((i + 1 : Nat) : Int) (by omega) (by omega) (TabF.st rfl hT hF hs)) rfl ?_)
      (repeat (first | refine VC.seq ?_ | refine VC.region ?_ | refine VC.block ?_ | refine VC.label ?_ | refine VC.scope ?_ | refine VO.go (VO.nil ?_) | refine VO.go (VO.ld 0 rfl rfl rfl rfl ?_)))
      refine VO.go (VO.callV' (fun Fr w hF hs _ => itoa_spec Fr w (M.refused ((i + 1 : Nat) : Int)) (by omega) (by omega) (TabF.st rfl hT hF hs)) rfl ?_)
      refine VO.go (VO.buildSlice [.string wRefused, .string (numT ((i + 1 : Nat) : Int)), .string (numT (M.refused ((i + 1 : Nat) : Int)))] rfl rfl rfl rfl (by decide) rfl fun sl => ?_)
      refine VO.go (VO.callV' (fun Fr w hF hs hS => line_spec Fr w [wRefused, numT ((i + 1 : Nat) : Int), numT (M.refused ((i + 1 : Nat) : Int))] (hS.blk 0 rfl) rfl rfl (Nat.le_of_ble_eq_true rfl) (by omega)) rfl ?_)
      refine VO.ent (L' := [txtH w.heap.size b (txt2 M i)]) (Imp.app (L := [_]) (M := []) Imp.nil Imp.refl).ent ?_
      have k10 : (refL M ((i + 1 : Nat) : Int)).size ≤ 2000101 := by rw [refL, lineT, cat_size, nl_size]; omega
      refine VO.go (VO.callBV (u := .tuple #[.int .i64 (refL M ((i + 1 : Nat) : Int)).size, .nilIface]) (L1 := [txtH w.heap.size b (txt2 M i ++ refL M ((i + 1 : Nat) : Int))]) (fun w' hs => write_spec Fr w' w.heap.size b (txt2 M i) (refL M ((i + 1 : Nat) : Int)) hs.low (by omega)) rfl ?_)
      (repeat (first | refine VC.seq ?_ | refine VC.region ?_ | refine VC.block ?_ | refine VC.label ?_ | refine VC.scope ?_ | refine VO.go (VO.nil ?_) | refine VO.go (VO.ld 0 rfl rfl rfl rfl ?_)))
      refine VO.go (VO.add rfl rfl (by omega) (by omega) ?_)
      (repeat (first | refine VC.seq ?_ | refine VC.region ?_ | refine VC.block ?_ | refine VC.label ?_ | refine VC.scope ?_ | refine VO.go (VO.nil ?_) | refine VO.go (VO.ld 0 rfl rfl rfl rfl ?_)))
      exact ⟨i + 1, by show i + 1 ≤ 10; omega, by dsimp only; omega, Sub.cons rfl (Sub.cons rfl (Sub.cons (by rfl) (Sub.nil _))), Ent.of_eq (by dsimp only; rw [e])⟩
    · have e : txt2 M (i + 1) = txt2 M i := by rw [txt2, if_neg h3]
      (repeat (first | refine VC.seq ?_ | refine VC.region ?_ | refine VC.block ?_ | refine VC.label ?_ | refine VC.scope ?_ | refine VO.go (VO.nil ?_) | refine VO.go (VO.ld 0 rfl rfl rfl rfl ?_)))
      refine VO.go (VO.add rfl rfl (by omega) (by omega) ?_)
      (repeat (first | refine VC.seq ?_ | refine VC.region ?_ | refine VC.block ?_ | refine VC.label ?_ | refine VC.scope ?_ | refine VO.go (VO.nil ?_) | refine VO.go (VO.ld 0 rfl rfl rfl rfl ?_)))
      exact ⟨i + 1, by show i + 1 ≤ 10; omega, by dsimp only; omega, Sub.cons rfl (Sub.cons rfl (Sub.cons (by rfl) (Sub.nil _))), Ent.of_eq (by dsimp only; rw [e])⟩
  · have hi10 : i = 10 := by omega
    subst hi10
    (repeat (first | refine VC.seq ?_ | refine VC.region ?_ | refine VC.block ?_ | refine VC.label ?_ | refine VC.scope ?_ | refine VO.go (VO.nil ?_) | refine VO.go (VO.ld 0 rfl rfl rfl rfl ?_)))
    refine VO.go (VO.callBV (u := .string (txt2 M 10)) (L1 := []) (fun w' hs => string_spec Fr w' w.heap.size b (txt2 M 10) hs.low) rfl ?_)
    (repeat (first | refine VC.seq ?_ | refine VC.region ?_ | refine VC.block ?_ | refine VC.label ?_ | refine VC.scope ?_ | refine VO.go (VO.nil ?_) | refine VO.go (VO.ld 0 rfl rfl rfl rfl ?_)))
    exact VC.ret (Ret.tmp 2 rfl rfl Ent.refl ⟨rfl, rfl⟩)
end Go.Proofs.YtoinocihlfmnnaaDoor.Met
