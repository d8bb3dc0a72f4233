/- The reference for meters: shares, the table, what is seen. No condition but that there are few frames. -/
import Derived.Test.YtoinocihlfmnnaaDoorRef30
namespace Go.Proofs.YtoinocihlfmnnaaDoor.Met
open Go Go.Proofs.YtoinocihlfmnnaaDoor.Vg Go.Proofs.YtoinocihlfmnnaaDoor.T Go.Proofs.YtoinocihlfmnnaaDoor.Api Go.Proofs.YtoinocihlfmnnaaDoor.Cnt Go.Proofs.YtoinocihlfmnnaaDoor.LibC
set_option linter.unusedSimpArgs false
set_option linter.unusedVariables false
attribute [local irreducible] VO VC VA

def rshare (l : List FrameM) (n : Int) : Int := if cntB 1 (-1) (-1) l = 0 ∨ n < 0 then 0 else 100 * cntB 1 n (-1) l / cntB 1 (-1) (-1) l
theorem rshare_spec (Fr : Nat → Prop) (w : World) {a : Option Addr} {cap : Nat} {l : List FG} (h : FsIn Fr w a l) (hl : l.length ≤ 1000) (n : Int) :
    Tri Tryd.prog 22 [.slice a l.length cap, .int .i64 n] Fr w [] (fun v L => v = .int .i64 (rshare (l.map Prod.fst) n) ∧ L = []) := by
  have hW := cntB_le 1 (-1) (-1) (l.map Prod.fst)
  have hP := cntB_le 1 n (-1) (l.map Prod.fst)
  simp only [List.length_map] at hW hP
  refine Tri.of 30 Tryd.func22 rfl (by kernel_rfl) tabOk rfl rfl ?_
  (repeat (first | refine VC.seq ?_ | refine VC.region ?_ | refine VC.block ?_ | refine VC.label ?_ | refine VC.scope ?_ | refine VO.go (VO.nil ?_) | refine VO.go (VO.ld 0 rfl rfl rfl rfl ?_)))
  refine VO.go (VO.callV' (fun Fr w hF hs _ => count_spec Fr w (h.of hF hs) hl 1 (-1) (-1)) rfl ?_)
  (repeat (first | refine VC.seq ?_ | refine VC.region ?_ | refine VC.block ?_ | refine VC.label ?_ | refine VC.scope ?_ | refine VO.go (VO.nil ?_) | refine VO.go (VO.ld 0 rfl rfl rfl rfl ?_)))
  refine VO.go (VO.callV' (fun Fr w hF hs _ => count_spec Fr w (h.of hF hs) hl 1 n (-1)) rfl ?_)
  (repeat (first | refine VC.seq ?_ | refine VC.region ?_ | refine VC.block ?_ | refine VC.label ?_ | refine VC.scope ?_ | refine VO.go (VO.nil ?_) | refine VO.go (VO.ld 0 rfl rfl rfl rfl ?_)))
  refine VO.go (VO.split 22 rfl rfl (fun h1 => ?_) (fun h1 => ?_))
  · have h1 : cntB 1 (-1) (-1) (l.map Prod.fst) = 0 := eq_of_beq h1
    (repeat (first | refine VC.seq ?_ | refine VC.region ?_ | refine VC.block ?_ | refine VC.label ?_ | refine VC.scope ?_ | refine VO.go (VO.nil ?_) | refine VO.go (VO.ld 0 rfl rfl rfl rfl ?_)))
    refine VC.condT rfl ?_
    (repeat (first | refine VC.seq ?_ | refine VC.region ?_ | refine VC.block ?_ | refine VC.label ?_ | refine VC.scope ?_ | refine VO.go (VO.nil ?_) | refine VO.go (VO.ld 0 rfl rfl rfl rfl ?_)))
    exact VC.ret (Ret.int 4 rfl rfl (by rw [rshare, if_pos (.inl h1)]) Ent.refl ⟨rfl, rfl⟩)
  · have h1 : cntB 1 (-1) (-1) (l.map Prod.fst) ≠ 0 := ne_of_beq_false h1
    (repeat (first | refine VC.seq ?_ | refine VC.region ?_ | refine VC.block ?_ | refine VC.label ?_ | refine VC.scope ?_ | refine VO.go (VO.nil ?_) | refine VO.go (VO.ld 0 rfl rfl rfl rfl ?_)))
    refine VC.condP rfl (fun h2 => ?_) (fun h2 => VC.skip ?_)
    · (repeat (first | refine VC.seq ?_ | refine VC.region ?_ | refine VC.block ?_ | refine VC.label ?_ | refine VC.scope ?_ | refine VO.go (VO.nil ?_) | refine VO.go (VO.ld 0 rfl rfl rfl rfl ?_)))
      exact VC.ret (Ret.int 4 rfl rfl (by rw [rshare, if_pos (.inr h2)]) Ent.refl ⟨rfl, rfl⟩)
    · have hq : 0 ≤ 100 * cntB 1 n (-1) (l.map Prod.fst) / cntB 1 (-1) (-1) (l.map Prod.fst) := Int.ediv_nonneg (by omega) (by omega)
      have hq2 : 100 * cntB 1 n (-1) (l.map Prod.fst) / cntB 1 (-1) (-1) (l.map Prod.fst) ≤ 100 * cntB 1 n (-1) (l.map Prod.fst) := Int.ediv_le_self _ (by omega)
      (repeat (first | refine VC.seq ?_ | refine VC.region ?_ | refine VC.block ?_ | refine VC.label ?_ | refine VC.scope ?_ | refine VO.go (VO.nil ?_) | refine VO.go (VO.ld 0 rfl rfl rfl rfl ?_)))
      refine VO.go (VO.mul rfl rfl (by omega) (by omega) ?_)
      (repeat (first | refine VC.seq ?_ | refine VC.region ?_ | refine VC.block ?_ | refine VC.label ?_ | refine VC.scope ?_ | refine VO.go (VO.nil ?_) | refine VO.go (VO.ld 0 rfl rfl rfl rfl ?_)))
      refine VO.go (VO.light (light_quo (100 * cntB 1 n (-1) (l.map Prod.fst) / cntB 1 (-1) (-1) (l.map Prod.fst)) rfl rfl (by omega) (by omega) (i64_in _ (by omega) (by omega))) ?_)
      (repeat (first | refine VC.seq ?_ | refine VC.region ?_ | refine VC.block ?_ | refine VC.label ?_ | refine VC.scope ?_ | refine VO.go (VO.nil ?_) | refine VO.go (VO.ld 0 rfl rfl rfl rfl ?_)))
      exact VC.ret (Ret.int 4 rfl rfl (by rw [rshare, if_neg (by omega)]) Ent.refl ⟨rfl, rfl⟩)

/-- A meter's counters are the frames, counted. -/
structure Cor (M : MM) (l : List FrameM) : Prop where
  calls : ∀ n : Int, 0 ≤ n → n < M.c → cntN 1 n (-1) l = M.calls n
  bytes : ∀ n : Int, 0 ≤ n → n < M.c → cntB 1 n (-1) l = M.bytes n
  all : cntB 1 (-1) (-1) l = M.sum M.c
  replies : cntN 2 (-1) (-1) l = M.replies
  refused : ∀ r : Int, 1 ≤ r → r ≤ 10 → cntN 3 (-1) r l = M.refused r
theorem Cor.share {M : MM} {l : List FrameM} (h : Cor M l) {n : Int} (h0 : 0 ≤ n) (h1 : n < M.c) : rshare l n = M.share n := by
  unfold rshare MM.share
  rw [if_pos (⟨h0, h1⟩ : 0 ≤ n ∧ n < M.c), h.all, h.bytes n h0 h1]
  by_cases hz : M.sum M.c = 0
  · rw [if_pos (.inl hz), if_pos hz]
  · rw [if_neg (by omega), if_neg hz, Int.mul_comm]

theorem decI_spec (Fr : Nat → Prop) (w : World) (n : Int) (h0 : 0 ≤ n) (h1 : n ≤ 1000000) : Tri Tryd.prog 46 [.int .i64 n] Fr w [] (fun v L => v = .string (numT n) ∧ L = []) := by
  obtain ⟨k, rfl⟩ := Int.eq_ofNat_of_zero_le h0
  rw [numT_nat]
  exact decimal_spec k (by omega) Fr w

theorem tl_cat (s t : ByteArray) : (s ++ t).data.toList = s.data.toList ++ t.data.toList := by simp
theorem tl_ext {s t : ByteArray} (h : s.data.toList = t.data.toList) : s = t := ByteArray.ext (Array.toList_inj.1 h)
theorem tl_line1 (x : ByteArray) (r : List ByteArray) : (lineT (x :: r)).data.toList = x.data.toList ++ Lib.joinTail [32] (r.map (·.data.toList)) ++ [10] := by
  rw [lineT, tl_cat, joinT, List.map_cons]
  show (Lib.join _ [32]) ++ [10] = _
  rw [Lib.join_cons]
def cClass : ByteArray := ⟨#[99, 108, 97, 115, 115, 32]⟩
def cCalls : ByteArray := ⟨#[32, 99, 97, 108, 108, 115, 32]⟩
def cBytes : ByteArray := ⟨#[32, 98, 121, 116, 101, 115, 32]⟩
def cShare : ByteArray := ⟨#[32, 115, 104, 97, 114, 101, 32]⟩
def cReplies : ByteArray := ⟨#[114, 101, 112, 108, 105, 101, 115, 32]⟩
def cRefused : ByteArray := ⟨#[114, 101, 102, 117, 115, 101, 100, 32]⟩
theorem cat_cls (s a b c d : ByteArray) : s ++ cClass ++ a ++ cCalls ++ b ++ cBytes ++ c ++ cShare ++ d ++ nl = s ++ lineT [wClass, a, wCalls, b, wBytes, c, wShare, d] := by
  apply tl_ext
  rw [tl_cat s (lineT _), tl_line1]
  simp only [tl_cat, Lib.joinTail, List.map_cons, List.map_nil, List.flatten_cons, List.flatten_nil, List.append_assoc, List.append_nil]
  rfl
theorem cat_rep (s a : ByteArray) : s ++ cReplies ++ a ++ nl = s ++ lineT [wReplies, a] := by
  apply tl_ext
  rw [tl_cat s (lineT _), tl_line1]
  simp only [tl_cat, Lib.joinTail, List.map_cons, List.map_nil, List.flatten_cons, List.flatten_nil, List.append_assoc, List.append_nil]
  rfl
theorem cat_ref (s a b : ByteArray) : s ++ cRefused ++ a ++ sp ++ b ++ nl = s ++ lineT [wRefused, a, b] := by
  apply tl_ext
  rw [tl_cat s (lineT _), tl_line1]
  simp only [tl_cat, Lib.joinTail, List.map_cons, List.map_nil, List.flatten_cons, List.flatten_nil, List.append_assoc, List.append_nil]
  rfl

set_option maxRecDepth 100000 in
theorem rtable_spec (Fr : Nat → Prop) (w : World) {a : Option Addr} {cap : Nat} {l : List FG} (h : FsIn Fr w a l) (hl : l.length ≤ 1000) {M : MM} (hM : M.Ok) (hC : Cor M (l.map Prod.fst)) :
    Tri Tryd.prog 23 [.int .i64 M.c, .slice a l.length cap] Fr w [] (fun v L => v = .string (tableT M) ∧ L = []) := by
  have hc4 := hM.c4
  have z1 : cClass.size = 6 := rfl
  have z2 : cCalls.size = 7 := rfl
  have z3 : cBytes.size = 7 := rfl
  have z4 : cShare.size = 7 := rfl
  have z5 : cReplies.size = 8 := rfl
  have z6 : cRefused.size = 8 := rfl
  have z7 := nl_size
  have z8 := sp_size
  refine Tri.of 79 Tryd.func23 rfl (by kernel_rfl) tabOk rfl rfl ?_
  (repeat (first | refine VC.seq ?_ | refine VC.region ?_ | refine VC.block ?_ | refine VC.label ?_ | refine VC.scope ?_ | refine VO.go (VO.nil ?_) | refine VO.go (VO.ld 0 rfl rfl rfl rfl ?_)))
  refine VC.loop (σ := Nat) (fun i => [(0, .int .i64 M.c), (1, .slice a l.length cap), (5, .string (txt1 M i)), (6, .int .i64 i)]) (fun _ => []) (fun i => i ≤ M.c) (fun i => M.c - i) 0 (Nat.zero_le _) (Sub.cons rfl (Sub.cons rfl (Sub.cons rfl (Sub.cons rfl (Sub.nil _))))) Ent.refl ?_
  intro i hi
  (repeat (first | refine VC.seq ?_ | refine VC.region ?_ | refine VC.block ?_ | refine VC.label ?_ | refine VC.scope ?_ | refine VO.go (VO.nil ?_) | refine VO.go (VO.ld 0 rfl rfl rfl rfl ?_)))
  refine VC.condP rfl (fun h2 => VC.skip ?_) (fun h2 => VC.exit ?_)
  · have hi2 : i < M.c := by omega
    have k0 := num_size (n := i) (by omega) (by omega)
    have k1 := hM.calls i
    have k2 := hM.bytes i
    have k3 := hM.share i
    have k4 := txt1_size hM i hi
    have n1 := num_size k1.1 k1.2
    have n2 := num_size k2.1 k2.2
    have n3 := num_size k3.1 (by omega)
    (repeat (first | refine VC.seq ?_ | refine VC.region ?_ | refine VC.block ?_ | refine VC.label ?_ | refine VC.scope ?_ | refine VO.go (VO.nil ?_) | refine VO.go (VO.ld 0 rfl rfl rfl rfl ?_)))
    refine VO.go (VO.callV' (fun Fr w hF hs _ => count_spec Fr w (h.of hF hs) hl 1 i (-1)) rfl ?_)
    rw [hC.calls i (by omega) (by omega), hC.bytes i (by omega) (by omega)]
    (repeat (first | refine VC.seq ?_ | refine VC.region ?_ | refine VC.block ?_ | refine VC.label ?_ | refine VC.scope ?_ | refine VO.go (VO.nil ?_) | refine VO.go (VO.ld 0 rfl rfl rfl rfl ?_)))
    refine VO.go (VO.light (light_cat (t := cClass) rfl rfl (by omega)) ?_)
    (repeat (first | refine VC.seq ?_ | refine VC.region ?_ | refine VC.block ?_ | refine VC.label ?_ | refine VC.scope ?_ | refine VO.go (VO.nil ?_) | refine VO.go (VO.ld 0 rfl rfl rfl rfl ?_)))
    refine VO.go (VO.callV (fun Fr w => decI_spec Fr w i (by omega) (by omega)) rfl ?_)
    refine VO.go (VO.light (light_cat rfl rfl (by rw [cat_size]; omega)) ?_)
    refine VO.go (VO.light (light_cat (t := cCalls) rfl rfl (by rw [cat_size, cat_size]; omega)) ?_)
    (repeat (first | refine VC.seq ?_ | refine VC.region ?_ | refine VC.block ?_ | refine VC.label ?_ | refine VC.scope ?_ | refine VO.go (VO.nil ?_) | refine VO.go (VO.ld 0 rfl rfl rfl rfl ?_)))
    refine VO.go (VO.callV (fun Fr w => decI_spec Fr w (M.calls i) (by omega) (by omega)) rfl ?_)
    refine VO.go (VO.light (light_cat rfl rfl (by rw [cat_size, cat_size, cat_size]; omega)) ?_)
    refine VO.go (VO.light (light_cat (t := cBytes) rfl rfl (by rw [cat_size, cat_size, cat_size, cat_size]; omega)) ?_)
    (repeat (first | refine VC.seq ?_ | refine VC.region ?_ | refine VC.block ?_ | refine VC.label ?_ | refine VC.scope ?_ | refine VO.go (VO.nil ?_) | refine VO.go (VO.ld 0 rfl rfl rfl rfl ?_)))
    refine VO.go (VO.callV (fun Fr w => decI_spec Fr w (M.bytes i) (by omega) (by omega)) rfl ?_)
    refine VO.go (VO.light (light_cat rfl rfl (by rw [cat_size, cat_size, cat_size, cat_size, cat_size]; omega)) ?_)
    refine VO.go (VO.light (light_cat (t := cShare) rfl rfl (by rw [cat_size, cat_size, cat_size, cat_size, cat_size, cat_size]; omega)) ?_)
    (repeat (first | refine VC.seq ?_ | refine VC.region ?_ | refine VC.block ?_ | refine VC.label ?_ | refine VC.scope ?_ | refine VO.go (VO.nil ?_) | refine VO.go (VO.ld 0 rfl rfl rfl rfl ?_)))
    refine VO.go (VO.callV' (fun Fr w hF hs _ => rshare_spec Fr w (h.of hF hs) hl i) rfl ?_)
    rw [hC.share (n := i) (by omega) (by omega)]
    refine VO.go (VO.callV (fun Fr w => decI_spec Fr w (M.share i) (by omega) (by omega)) rfl ?_)
    refine VO.go (VO.light (light_cat rfl rfl (by rw [cat_size, cat_size, cat_size, cat_size, cat_size, cat_size, cat_size]; omega)) ?_)
    refine VO.go (VO.light (light_cat (t := nl) rfl rfl (by rw [cat_size, cat_size, cat_size, cat_size, cat_size, cat_size, cat_size, cat_size]; omega)) ?_)
    rw [cat_cls]
    (repeat (first | refine VC.seq ?_ | refine VC.region ?_ | refine VC.block ?_ | refine VC.label ?_ | refine VC.scope ?_ | refine VO.go (VO.nil ?_) | refine VO.go (VO.ld 0 rfl rfl rfl rfl ?_)))
    refine VO.go (VO.add rfl rfl (by omega) (by omega) ?_)
    (repeat (first | refine VC.seq ?_ | refine VC.region ?_ | refine VC.block ?_ | refine VC.label ?_ | refine VC.scope ?_ | refine VO.go (VO.nil ?_) | refine VO.go (VO.ld 0 rfl rfl rfl rfl ?_)))
    exact ⟨i + 1, by show i + 1 ≤ M.c; omega, by dsimp only; omega, Sub.cons rfl (Sub.cons rfl (Sub.cons rfl (Sub.cons rfl (Sub.nil _)))), Ent.refl⟩
  have hic : i = M.c := by omega
  subst hic
  have k1 := txt1_size hM M.c (Nat.le_refl _)
  have k3 := hM.at_ (2 * M.c)
  have n1 : (numT M.replies).size ≤ 1000001 := num_size k3.1 k3.2
  (repeat (first | refine VC.seq ?_ | refine VC.region ?_ | refine VC.block ?_ | refine VC.label ?_ | refine VC.scope ?_ | refine VO.go (VO.nil ?_) | refine VO.go (VO.ld 0 rfl rfl rfl rfl ?_)))
  refine VO.go (VO.callV' (fun Fr w hF hs _ => count_spec Fr w (h.of hF hs) hl 2 (-1) (-1)) rfl ?_)
  rw [hC.replies]
  (repeat (first | refine VC.seq ?_ | refine VC.region ?_ | refine VC.block ?_ | refine VC.label ?_ | refine VC.scope ?_ | refine VO.go (VO.nil ?_) | refine VO.go (VO.ld 0 rfl rfl rfl rfl ?_)))
  refine VO.go (VO.light (light_cat (t := cReplies) rfl rfl (by omega)) ?_)
  (repeat (first | refine VC.seq ?_ | refine VC.region ?_ | refine VC.block ?_ | refine VC.label ?_ | refine VC.scope ?_ | refine VO.go (VO.nil ?_) | refine VO.go (VO.ld 0 rfl rfl rfl rfl ?_)))
  refine VO.go (VO.callV (fun Fr w => decI_spec Fr w M.replies k3.1 k3.2) rfl ?_)
  refine VO.go (VO.light (light_cat rfl rfl (by rw [cat_size]; omega)) ?_)
  refine VO.go (VO.light (light_cat (t := nl) rfl rfl (by rw [cat_size, cat_size]; omega)) ?_)
  rw [cat_rep]
  (repeat (first | refine VC.seq ?_ | refine VC.region ?_ | refine VC.block ?_ | refine VC.label ?_ | refine VC.scope ?_ | refine VO.go (VO.nil ?_) | refine VO.go (VO.ld 0 rfl rfl rfl rfl ?_)))
  refine VC.loop (σ := Nat) (fun i => [(0, .int .i64 M.c), (1, .slice a l.length cap), (5, .string (txt2 M i)), (11, .int .i64 ((i + 1 : Nat) : Int))]) (fun _ => []) (fun i => i ≤ 10) (fun i => 10 - i) 0 (Nat.zero_le _) (Sub.cons rfl (Sub.cons rfl (Sub.cons rfl (Sub.cons rfl (Sub.nil _))))) Ent.refl ?_
  intro i hi
  (repeat (first | refine VC.seq ?_ | refine VC.region ?_ | refine VC.block ?_ | refine VC.label ?_ | refine VC.scope ?_ | refine VO.go (VO.nil ?_) | refine VO.go (VO.ld 0 rfl rfl rfl rfl ?_)))
  have k7 := txt2_size hM i hi
  refine VC.condP rfl (fun h2 => VC.skip ?_) (fun h2 => VC.exit ?_)
  · have k8 := hM.refused ((i + 1 : Nat) : Int)
    have n2 := num_size (n := ((i + 1 : Nat) : Int)) (by omega) (by omega)
    have n3 := num_size k8.1 k8.2
    (repeat (first | refine VC.seq ?_ | refine VC.region ?_ | refine VC.block ?_ | refine VC.label ?_ | refine VC.scope ?_ | refine VO.go (VO.nil ?_) | refine VO.go (VO.ld 0 rfl rfl rfl rfl ?_)))
    refine VO.go (VO.callV' (fun Fr w hF hs _ => count_spec Fr w (h.of hF hs) hl 3 (-1) ((i + 1 : Nat) : Int)) rfl ?_)
    rw [hC.refused ((i + 1 : Nat) : Int) (by omega) (by omega)]
    (repeat (first | refine VC.seq ?_ | refine VC.region ?_ | refine VC.block ?_ | refine VC.label ?_ | refine VC.scope ?_ | refine VO.go (VO.nil ?_) | refine VO.go (VO.ld 0 rfl rfl rfl rfl ?_)))
    refine VC.condP rfl (fun h3 => ?_) (fun h3 => VC.skip ?_)
    · have e : txt2 M (i + 1) = txt2 M i ++ refL M ((i + 1 : Nat) : Int) := by rw [txt2, if_pos h3]
      (repeat (first | refine VC.seq ?_ | refine VC.region ?_ | refine VC.block ?_ | refine VC.label ?_ | refine VC.scope ?_ | refine VO.go (VO.nil ?_) | refine VO.go (VO.ld 0 rfl rfl rfl rfl ?_)))
      refine VO.go (VO.light (light_cat (t := cRefused) rfl rfl (by omega)) ?_)
      (repeat (first | refine VC.seq ?_ | refine VC.region ?_ | refine VC.block ?_ | refine VC.label ?_ | refine VC.scope ?_ | refine VO.go (VO.nil ?_) | refine VO.go (VO.ld 0 rfl rfl rfl rfl ?_)))
      refine VO.go (VO.callV (fun Fr w => decI_spec Fr w ((i + 1 : Nat) : Int) (by omega) (by omega)) rfl ?_)
      refine VO.go (VO.light (light_cat rfl rfl (by rw [cat_size]; omega)) ?_)
      refine VO.go (VO.light (light_cat (t := sp) rfl rfl (by rw [cat_size, cat_size]; omega)) ?_)
      (repeat (first | refine VC.seq ?_ | refine VC.region ?_ | refine VC.block ?_ | refine VC.label ?_ | refine VC.scope ?_ | refine VO.go (VO.nil ?_) | refine VO.go (VO.ld 0 rfl rfl rfl rfl ?_)))
      refine VO.go (VO.callV (fun Fr w => decI_spec Fr w (M.refused ((i + 1 : Nat) : Int)) (by omega) (by omega)) rfl ?_)
      refine VO.go (VO.light (light_cat rfl rfl (by rw [cat_size, cat_size, cat_size]; omega)) ?_)
      refine VO.go (VO.light (light_cat (t := nl) rfl rfl (by rw [cat_size, cat_size, cat_size, cat_size]; omega)) ?_)
      rw [cat_ref, show txt2 M i ++ lineT [wRefused, numT ((i + 1 : Nat) : Int), numT (M.refused ((i + 1 : Nat) : Int))] = txt2 M (i + 1) from e.symm]
      (repeat (first | refine VC.seq ?_ | refine VC.region ?_ | refine VC.block ?_ | refine VC.label ?_ | refine VC.scope ?_ | refine VO.go (VO.nil ?_) | refine VO.go (VO.ld 0 rfl rfl rfl rfl ?_)))
      refine VO.go (VO.add rfl rfl (by omega) (by omega) ?_)
      (repeat (first | refine VC.seq ?_ | refine VC.region ?_ | refine VC.block ?_ | refine VC.label ?_ | refine VC.scope ?_ | refine VO.go (VO.nil ?_) | refine VO.go (VO.ld 0 rfl rfl rfl rfl ?_)))
      exact ⟨i + 1, by show i + 1 ≤ 10; omega, by dsimp only; omega, Sub.cons rfl (Sub.cons rfl (Sub.cons rfl (Sub.cons (by rfl) (Sub.nil _)))), Ent.refl⟩
    · have e : txt2 M (i + 1) = txt2 M i := by rw [txt2, if_neg h3]
      rw [← e]
      (repeat (first | refine VC.seq ?_ | refine VC.region ?_ | refine VC.block ?_ | refine VC.label ?_ | refine VC.scope ?_ | refine VO.go (VO.nil ?_) | refine VO.go (VO.ld 0 rfl rfl rfl rfl ?_)))
      refine VO.go (VO.add rfl rfl (by omega) (by omega) ?_)
      (repeat (first | refine VC.seq ?_ | refine VC.region ?_ | refine VC.block ?_ | refine VC.label ?_ | refine VC.scope ?_ | refine VO.go (VO.nil ?_) | refine VO.go (VO.ld 0 rfl rfl rfl rfl ?_)))
      exact ⟨i + 1, by show i + 1 ≤ 10; omega, by dsimp only; omega, Sub.cons rfl (Sub.cons rfl (Sub.cons rfl (Sub.cons (by rfl) (Sub.nil _)))), Ent.refl⟩
  · have hi10 : i = 10 := by omega
    subst hi10
    (repeat (first | refine VC.seq ?_ | refine VC.region ?_ | refine VC.block ?_ | refine VC.label ?_ | refine VC.scope ?_ | refine VO.go (VO.nil ?_) | refine VO.go (VO.ld 0 rfl rfl rfl rfl ?_)))
    exact VC.ret (Ret.tmp 4 rfl rfl Ent.refl ⟨rfl, rfl⟩)
end Go.Proofs.YtoinocihlfmnnaaDoor.Met
