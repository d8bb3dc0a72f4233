/- Logs: entries, and what became of them: made, asked, and written on. No condition. -/
import Derived.Test.YtbbnmgakmcppdaaGreatVgK
import Derived.Test.YtbbnmgakmcppdaaGreatKv
namespace Go.Proofs.YtbbnmgakmcppdaaGreat.Lg
open Go Go.Proofs.YtbbnmgakmcppdaaGreat.Vg Go.Proofs.YtbbnmgakmcppdaaGreat.T Go.Proofs.YtbbnmgakmcppdaaGreat.Api Go.Proofs.YtbbnmgakmcppdaaGreat.Kv
set_option linter.unusedSimpArgs false
set_option linter.unusedVariables false
attribute [local irreducible] VO VC VA

abbrev entT : TypeId := 44
abbrev resT : TypeId := 42
abbrev logT : TypeId := 139
def entC (e : EntryM) : List Value := [.int .i64 e.index, .int .i64 e.client, .int .i64 e.seq, .int .i64 e.op.kind, .string e.op.key, .string e.op.value, .int .i64 e.op.version]
theorem entC_len (e : EntryM) : (entC e).length = 7 := rfl
theorem entC_one (e : EntryM) : (entC e).all Value.oneCell' = true := rfl
theorem resC_len (r : ResM) : (resC r).length = 4 := rfl
theorem resC_one (r : ResM) : (resC r).all Value.oneCell' = true := rfl
def entZ : EntryM := ⟨0, 0, 0, opZ⟩
def logStep (x : KvM × List ResM) (e : EntryM) : KvM × List ResM := ((kvApply x.1 e.index e.op).1, x.2 ++ [(kvApply x.1 e.index e.op).2])
def logRun (es : List EntryM) : KvM × List ResM := es.foldl logStep ([], [])
theorem logRun_snoc (es : List EntryM) (e : EntryM) : logRun (es ++ [e]) = logStep (logRun es) e := by simp [logRun]
theorem logRun_len (es : List EntryM) : (logRun es).2.length = es.length := by
  have : ∀ (es : List EntryM) (x : KvM × List ResM), (es.foldl logStep x).2.length = x.2.length + es.length := by
    intro es
    induction es with
    | nil => intro x; rfl
    | cons e es ih => intro x; rw [List.foldl_cons, ih]; simp [logStep]; omega
  have h := this es ([], [])
  simpa [logRun] using h
def lastStep (c : Int) (p : Int × Int) (e : EntryM) : Int × Int := if e.client = c then (e.seq, e.index) else p
def lastOf (es : List EntryM) (c : Int) : Int × Int := es.foldl (lastStep c) (0, 0)
theorem lastOf_snoc (es : List EntryM) (e : EntryM) (c : Int) : lastOf (es ++ [e]) c = if e.client = c then (e.seq, e.index) else lastOf es c := by simp [lastOf, lastStep]
def lastsC (es : List EntryM) : List Value := (List.range 6).flatMap fun c => [.int .i64 (lastOf es (c : Nat)).1, .int .i64 (lastOf es (c : Nat)).2]
theorem lastsC_len (es : List EntryM) : (lastsC es).length = 12 := rfl
theorem lastsC_at {es : List EntryM} {c : Nat} (h : c < 6) : (lastsC es)[c * 2]? = some (.int .i64 (lastOf es (c : Nat)).1) ∧ (lastsC es)[c * 2 + 1]? = some (.int .i64 (lastOf es (c : Nat)).2) := by
  match c, h with
  | 0, _ => exact ⟨rfl, rfl⟩
  | 1, _ => exact ⟨rfl, rfl⟩
  | 2, _ => exact ⟨rfl, rfl⟩
  | 3, _ => exact ⟨rfl, rfl⟩
  | 4, _ => exact ⟨rfl, rfl⟩
  | 5, _ => exact ⟨rfl, rfl⟩
  | c + 6, h => omega
structure LogS where
  sp : Nat
  a1 : Option Addr
  c1 : Nat
  a2 : Option Addr
  c2 : Nat
def logCs (es : List EntryM) (x : LogS) : List Value := .pointer (some ⟨x.sp, 0, none⟩) :: .slice x.a1 es.length x.c1 :: .slice x.a2 (logRun es).2.length x.c2 :: lastsC es
def logL (p : Nat) (es : List EntryM) (x : LogS) : List HP := [pt p (logCs es x) logT, kvH x.sp (logRun es).1, slH entT 7 x.a1 es.length x.c1 (flat entC es), slH resT 4 x.a2 (logRun es).2.length x.c2 (flat resC (logRun es).2)]
def logH (p : Nat) (es : List EntryM) : HP := hex fun x => hsep (logL p es x)
structure LogIn (Fr : Nat → Prop) (w : World) (p : Nat) (es : List EntryM) (x : LogS) : Prop where
  blk : Blk Fr w p (logCs es x)
  kv : SatIn Fr [kvH x.sp (logRun es).1] w
  ents : RwIn entC 7 Fr w x.a1 es
  ress : RwIn resC 4 Fr w x.a2 (logRun es).2
theorem LogIn.of {Fr : Nat → Prop} {w : World} {p : Nat} {es : List EntryM} (h : SatIn Fr [logH p es] w) : ∃ x, LogIn Fr w p es x := by
  obtain ⟨x, h⟩ := h.ex
  have h := h.sep
  exact ⟨x, h.blk 0 rfl, h.at_ 1 rfl, RwIn.slH entC_len (h.at_ 2 rfl), RwIn.slH resC_len (h.at_ 3 rfl)⟩
theorem HOpn.log (p : Nat) (es : List EntryM) : HOpn (ι := LogS) (logH p es) (fun _ => True) (fun x => logL p es x) := fun w ids ⟨x, h⟩ hn => ⟨x, trivial, ids, h, hn, fun _ h => h⟩
theorem Imp.log {p : Nat} {es : List EntryM} {L M : List HP} (x : LogS) (h : Imp L (logL p es x ++ M)) : Imp L (logH p es :: M) :=
  Imp.ex (f := fun x => hsep (logL p es x)) x (Imp.sep (Ls := logL p es x) h)

theorem new_spec (Fr : Nat → Prop) (w : World) : Tri Tryz.prog 50 [] Fr w [] (fun v L => ∃ p, v = .pointer (some ⟨p, 0, none⟩) ∧ L = [logH p []]) := by
  refine Tri.of 4 Tryz.func50 rfl (by kernel_rfl) tabOk rfl rfl ?_
  (repeat (first|refine zS ?_|refine zR ?_|refine zB ?_|refine zL ?_|refine zC ?_|refine zG (zN ?_)|refine zG (zD 0 rfl rfl rfl rfl ?_)))
  refine VO.go (VO.call (Lc := []) (fun Fr w hF hw _ => Kv.new_spec Fr w) rfl rfl ?_)
  rintro _ _ ⟨q, rfl, rfl⟩
  refine VO.go (VO.light (light_build (pv := [(0, .pointer (some ⟨q, 0, none⟩))]) (logCs [] ⟨q, none, 0, none, 0⟩) rfl rfl rfl (by kernel_rfl) rfl) ?_)
  refine VO.go (VO.boxA (vs := logCs [] ⟨q, none, 0, none, 0⟩) rfl fun p => ?_)
  (repeat (first|refine zS ?_|refine zR ?_|refine zB ?_|refine zL ?_|refine zC ?_|refine zG (zN ?_)|refine zG (zD 0 rfl rfl rfl rfl ?_)))
  exact VC.ret (Ret.tmp 0 rfl rfl (Imp.log ⟨q, none, 0, none, 0⟩ (Imp.pick 0 rfl (Imp.pick 0 rfl (Imp.slNil (Imp.slNil Imp.nil))))).ent ⟨p, rfl, rfl⟩)
section
variable {p : Nat} {es : List EntryM}
theorem none_spec (Fr : Nat → Prop) (w : World) {q : Nat} {cs : List Value} (h : Blk Fr w p (.pointer (some ⟨q, 0, none⟩) :: cs)) : Tri Tryz.prog 72 [.pointer (some ⟨p, 0, none⟩)] Fr w [] (fun v L => v = .bool false ∧ L = []) := by
  refine Tri.of 12 Tryz.func72 rfl (by kernel_rfl) tabOk rfl rfl ?_
  (repeat (first|refine zS ?_|refine zR ?_|refine zB ?_|refine zL ?_|refine zC ?_|refine zG (zN ?_)|refine zG (zD 0 rfl rfl rfl rfl ?_)))
  refine VO.go (VO.split 5 rfl rfl (fun h => by cases h) (fun _ => ?_))
  (repeat (first|refine zS ?_|refine zR ?_|refine zB ?_|refine zL ?_|refine zC ?_|refine zG (zN ?_)|refine zG (zE rfl rfl (RdL.blk h rfl) ?_)))
  exact VC.ret (Ret.bool 2 rfl rfl rfl Ent.refl ⟨rfl, rfl⟩)
theorem len_spec (Fr : Nat → Prop) (w : World) (h : SatIn Fr [logH p es] w) : Tri Tryz.prog 19 [.pointer (some ⟨p, 0, none⟩)] Fr w [] (fun v L => v = .int .i64 es.length ∧ L = []) := by
  obtain ⟨x, hx⟩ := LogIn.of h
  have hb := hx.blk
  unfold logCs at hb
  refine Tri.of 10 Tryz.func19 rfl (by kernel_rfl) tabOk rfl rfl ?_
  (repeat (first|refine zS ?_|refine zR ?_|refine zB ?_|refine zL ?_|refine zC ?_|refine zG (zN ?_)|refine zG (zD 0 rfl rfl rfl rfl ?_)))
  refine VO.go (VO.callV' (fun Fr w hF hs _ => none_spec Fr w (hb.of hF hs)) rfl ?_)
  (repeat (first|refine zS ?_|refine zR ?_|refine zB ?_|refine zL ?_|refine zC ?_|refine zG (zN ?_)|refine zG (zD 0 rfl rfl rfl rfl ?_)))
  refine VC.condF rfl (VC.skip ?_)
  (repeat (first|refine zS ?_|refine zR ?_|refine zB ?_|refine zL ?_|refine zC ?_|refine zG (zN ?_)|refine zG (zE rfl rfl (RdL.blk hb rfl) ?_)))
  exact VC.ret (Ret.int 2 rfl rfl rfl Ent.refl ⟨rfl, rfl⟩)
def atI {α : Type} (l : List α) (i : Int) : Option α := if 1 ≤ i then l[(i - 1).toNat]? else none
theorem atI_none {α : Type} {l : List α} {i : Int} (h : i < 1 ∨ (l.length : Int) < i) : atI l i = none := by
  unfold atI
  split
  · exact List.getElem?_eq_none (by omega)
  · rfl
theorem atI_some {α : Type} {l : List α} {i : Int} (h0 : 1 ≤ i) (h1 : i ≤ l.length) : ∃ (k : Nat) (x : α), i = k + 1 ∧ k < l.length ∧ l[k]? = some x ∧ atI l i = some x := by
  refine ⟨(i - 1).toNat, _, by omega, by omega, List.getElem?_eq_getElem (by omega), ?_⟩
  rw [atI, if_pos h0, List.getElem?_eq_getElem (by omega)]
set_option maxRecDepth 100000 in
theorem at_spec (Fr : Nat → Prop) (w : World) (h : SatIn Fr [logH p es] w) (i : Int) (hi0 : -9223372036854775808 < i) (hi1 : i ≤ 9223372036854775807) : Tri Tryz.prog 40 [.pointer (some ⟨p, 0, none⟩), .int .i64 i] Fr w []
    (fun v L => v = .tuple #[.agg (entC ((atI es i).getD entZ)).toArray, .bool (atI es i).isSome] ∧ L = []) := by
  obtain ⟨x, hx⟩ := LogIn.of h
  have hb := hx.blk
  unfold logCs at hb
  refine Tri.of 23 Tryz.func40 rfl (by kernel_rfl) tabOk rfl rfl ?_
  refine VC.seq (VC.region (VO.go (VO.alloc rfl fun rb => ?_)))
  (repeat (first|refine zS ?_|refine zR ?_|refine zB ?_|refine zL ?_|refine zC ?_|refine zG (zN ?_)|refine zG (zD 0 rfl rfl rfl rfl ?_)))
  by_cases h0 : i < 1
  · refine VO.go (VO.yes 8 true rfl (decide_eq_true h0) ?_)
    (repeat (first|refine zS ?_|refine zR ?_|refine zB ?_|refine zL ?_|refine zC ?_|refine zG (zN ?_)|refine zG (zD 0 rfl rfl rfl rfl ?_)|refine zG (zU rfl rfl rfl ?_)))
    refine VC.condT rfl ?_
    (repeat (first|refine zS ?_|refine zR ?_|refine zB ?_|refine zL ?_|refine zC ?_|refine zG (zN ?_)|refine zG (zD 0 rfl rfl rfl rfl ?_)))
    refine VO.go (VO.light (light_build (pv := []) (entC entZ) rfl rfl rfl (by kernel_rfl) rfl) ?_)
    refine VO.go (VO.stA (vs := entC entZ) 0 rfl rfl rfl rfl (Nat.le_refl _) rfl rfl rfl ?_)
    (repeat (first|refine zS ?_|refine zR ?_|refine zB ?_|refine zL ?_|refine zC ?_|refine zG (zN ?_)|refine zG (zD 0 rfl rfl rfl rfl ?_)))
    exact VC.ret (Ret.cellTmp 4 5 rfl rfl rfl (RdL.many (ds := entC entZ) 0 rfl rfl) rfl Imp.nil.ent ⟨by rw [atI_none (.inl h0)]; rfl, rfl⟩)
  · refine VO.go (VO.yes 8 false rfl (decide_eq_false h0) ?_)
    (repeat (first|refine zS ?_|refine zR ?_|refine zB ?_|refine zL ?_|refine zC ?_|refine zG (zN ?_)|refine zG (zD 0 rfl rfl rfl rfl ?_)|refine zG (zU rfl rfl rfl ?_)))
    refine VO.go (VO.callV' (fun Fr w hF hs hS => len_spec Fr w (h.of hF hs)) rfl ?_)
    (repeat (first|refine zS ?_|refine zR ?_|refine zB ?_|refine zL ?_|refine zC ?_|refine zG (zN ?_)|refine zG (zD 0 rfl rfl rfl rfl ?_)|refine zG (zU rfl rfl rfl ?_)))
    refine VC.condP rfl (fun h1 => ?_) (fun h1 => VC.skip ?_)
    · (repeat (first|refine zS ?_|refine zR ?_|refine zB ?_|refine zL ?_|refine zC ?_|refine zG (zN ?_)|refine zG (zD 0 rfl rfl rfl rfl ?_)))
      refine VO.go (VO.light (light_build (pv := []) (entC entZ) rfl rfl rfl (by kernel_rfl) rfl) ?_)
      refine VO.go (VO.stA (vs := entC entZ) 0 rfl rfl rfl rfl (Nat.le_refl _) rfl rfl rfl ?_)
      (repeat (first|refine zS ?_|refine zR ?_|refine zB ?_|refine zL ?_|refine zC ?_|refine zG (zN ?_)|refine zG (zD 0 rfl rfl rfl rfl ?_)))
      exact VC.ret (Ret.cellTmp 4 5 rfl rfl rfl (RdL.many (ds := entC entZ) 0 rfl rfl) rfl Imp.nil.ent ⟨by rw [atI_none (.inr h1)]; rfl, rfl⟩)
    · obtain ⟨k, e, rfl, hk, he, hat⟩ := atI_some (l := es) (i := i) (by omega) (by omega)
      obtain ⟨eb, eo, hea, ra, rc⟩ := RwIn.rd (X := ⟨Tryz.prog, tab, tabOk, 23, Fr, w⟩) hx.ents he
      rw [hea] at hb
      (repeat (first|refine zS ?_|refine zR ?_|refine zB ?_|refine zL ?_|refine zC ?_|refine zG (zN ?_)|refine zG (zE rfl rfl (RdL.blk hb rfl) ?_)))
      refine VO.go (VO.sub' rfl rfl (by omega) (by omega) ?_)
      refine VO.go (VO.light (light_idx k rfl rfl rfl rfl rfl (by omega) hk) ?_)
      refine VO.go (VO.load rfl rfl (ra _ _ rfl rfl) ?_)
      refine VO.go (VO.stA (vs := entC e) 0 rfl rfl rfl rfl (Nat.le_refl _) rfl rfl rfl ?_)
      (repeat (first|refine zS ?_|refine zR ?_|refine zB ?_|refine zL ?_|refine zC ?_|refine zG (zN ?_)|refine zG (zD 0 rfl rfl rfl rfl ?_)))
      exact VC.ret (Ret.cellTmp 4 5 rfl rfl rfl (RdL.many (ds := entC e) 0 rfl rfl) rfl Imp.nil.ent ⟨by rw [hat]; rfl, rfl⟩)
set_option maxRecDepth 100000 in
theorem result_spec (Fr : Nat → Prop) (w : World) (h : SatIn Fr [logH p es] w) (i : Int) (hi0 : -9223372036854775808 < i) (hi1 : i ≤ 9223372036854775807) : Tri Tryz.prog 23 [.pointer (some ⟨p, 0, none⟩), .int .i64 i] Fr w []
    (fun v L => v = .tuple #[.agg (resC ((atI (logRun es).2 i).getD resZ)).toArray, .bool (atI (logRun es).2 i).isSome] ∧ L = []) := by
  obtain ⟨x, hx⟩ := LogIn.of h
  have hb := hx.blk
  unfold logCs at hb
  have hrl := logRun_len es
  refine Tri.of 23 Tryz.func23 rfl (by kernel_rfl) tabOk rfl rfl ?_
  refine VC.seq (VC.region (VO.go (VO.alloc rfl fun rb => ?_)))
  (repeat (first|refine zS ?_|refine zR ?_|refine zB ?_|refine zL ?_|refine zC ?_|refine zG (zN ?_)|refine zG (zD 0 rfl rfl rfl rfl ?_)))
  by_cases h0 : i < 1
  · refine VO.go (VO.yes 8 true rfl (decide_eq_true h0) ?_)
    (repeat (first|refine zS ?_|refine zR ?_|refine zB ?_|refine zL ?_|refine zC ?_|refine zG (zN ?_)|refine zG (zD 0 rfl rfl rfl rfl ?_)|refine zG (zU rfl rfl rfl ?_)))
    refine VC.condT rfl ?_
    (repeat (first|refine zS ?_|refine zR ?_|refine zB ?_|refine zL ?_|refine zC ?_|refine zG (zN ?_)|refine zG (zD 0 rfl rfl rfl rfl ?_)))
    refine VO.go (VO.light (light_build (pv := []) (resC resZ) rfl rfl rfl (by kernel_rfl) rfl) ?_)
    refine VO.go (VO.stA (vs := resC resZ) 0 rfl rfl rfl rfl (Nat.le_refl _) rfl rfl rfl ?_)
    (repeat (first|refine zS ?_|refine zR ?_|refine zB ?_|refine zL ?_|refine zC ?_|refine zG (zN ?_)|refine zG (zD 0 rfl rfl rfl rfl ?_)))
    exact VC.ret (Ret.cellTmp 4 5 rfl rfl rfl (RdL.many (ds := resC resZ) 0 rfl rfl) rfl Imp.nil.ent ⟨by rw [atI_none (.inl h0)]; rfl, rfl⟩)
  · refine VO.go (VO.yes 8 false rfl (decide_eq_false h0) ?_)
    (repeat (first|refine zS ?_|refine zR ?_|refine zB ?_|refine zL ?_|refine zC ?_|refine zG (zN ?_)|refine zG (zD 0 rfl rfl rfl rfl ?_)|refine zG (zU rfl rfl rfl ?_)))
    refine VO.go (VO.callV' (fun Fr w hF hs hS => len_spec Fr w (h.of hF hs)) rfl ?_)
    (repeat (first|refine zS ?_|refine zR ?_|refine zB ?_|refine zL ?_|refine zC ?_|refine zG (zN ?_)|refine zG (zD 0 rfl rfl rfl rfl ?_)|refine zG (zU rfl rfl rfl ?_)))
    refine VC.condP rfl (fun h1 => ?_) (fun h1 => VC.skip ?_)
    · (repeat (first|refine zS ?_|refine zR ?_|refine zB ?_|refine zL ?_|refine zC ?_|refine zG (zN ?_)|refine zG (zD 0 rfl rfl rfl rfl ?_)))
      refine VO.go (VO.light (light_build (pv := []) (resC resZ) rfl rfl rfl (by kernel_rfl) rfl) ?_)
      refine VO.go (VO.stA (vs := resC resZ) 0 rfl rfl rfl rfl (Nat.le_refl _) rfl rfl rfl ?_)
      (repeat (first|refine zS ?_|refine zR ?_|refine zB ?_|refine zL ?_|refine zC ?_|refine zG (zN ?_)|refine zG (zD 0 rfl rfl rfl rfl ?_)))
      exact VC.ret (Ret.cellTmp 4 5 rfl rfl rfl (RdL.many (ds := resC resZ) 0 rfl rfl) rfl Imp.nil.ent ⟨by rw [atI_none (.inr (by rw [hrl]; exact h1))]; rfl, rfl⟩)
    · obtain ⟨k, e, rfl, hk, he, hat⟩ := atI_some (l := (logRun es).2) (i := i) (by omega) (by omega)
      obtain ⟨eb, eo, hea, ra, rc⟩ := RwIn.rd (X := ⟨Tryz.prog, tab, tabOk, 23, Fr, w⟩) hx.ress he
      rw [hea] at hb
      (repeat (first|refine zS ?_|refine zR ?_|refine zB ?_|refine zL ?_|refine zC ?_|refine zG (zN ?_)|refine zG (zE rfl rfl (RdL.blk hb rfl) ?_)))
      refine VO.go (VO.sub' rfl rfl (by omega) (by omega) ?_)
      refine VO.go (VO.light (light_idx k rfl rfl rfl rfl rfl (by omega) hk) ?_)
      refine VO.go (VO.load rfl rfl (ra _ _ rfl rfl) ?_)
      refine VO.go (VO.stA (vs := resC e) 0 rfl rfl rfl rfl (Nat.le_refl _) rfl rfl rfl ?_)
      (repeat (first|refine zS ?_|refine zR ?_|refine zB ?_|refine zL ?_|refine zC ?_|refine zG (zN ?_)|refine zG (zD 0 rfl rfl rfl rfl ?_)))
      exact VC.ret (Ret.cellTmp 4 5 rfl rfl rfl (RdL.many (ds := resC e) 0 rfl rfl) rfl Imp.nil.ent ⟨by rw [hat]; rfl, rfl⟩)
def lastR (es : List EntryM) (c : Int) : Int × Int := if 0 ≤ c ∧ c < 6 then lastOf es c else (0, 0)
theorem last_spec (Fr : Nat → Prop) (w : World) (h : SatIn Fr [logH p es] w) (c : Int) : Tri Tryz.prog 198 [.pointer (some ⟨p, 0, none⟩), .int .i64 c] Fr w []
    (fun v L => v = .tuple #[.int .i64 (lastR es c).1, .int .i64 (lastR es c).2] ∧ L = []) := by
  obtain ⟨x, hx⟩ := LogIn.of h
  have hb := hx.blk
  unfold logCs at hb
  refine Tri.of 30 Tryz.func198 rfl (by kernel_rfl) tabOk rfl rfl ?_
  (repeat (first|refine zS ?_|refine zR ?_|refine zB ?_|refine zL ?_|refine zC ?_|refine zG (zN ?_)|refine zG (zD 0 rfl rfl rfl rfl ?_)))
  refine VO.go (VO.callV' (fun Fr w hF hs hS => none_spec Fr w (hb.of hF hs)) rfl ?_)
  (repeat (first|refine zS ?_|refine zR ?_|refine zB ?_|refine zL ?_|refine zC ?_|refine zG (zN ?_)|refine zG (zD 0 rfl rfl rfl rfl ?_)))
  refine VO.go (VO.yes 8 false rfl rfl ?_)
  (repeat (first|refine zS ?_|refine zR ?_|refine zB ?_|refine zL ?_|refine zC ?_|refine zG (zN ?_)|refine zG (zD 0 rfl rfl rfl rfl ?_)|refine zG (zU rfl rfl rfl ?_)))
  by_cases h0 : c < 0
  · refine VO.go (VO.yes 12 true rfl (decide_eq_true h0) ?_)
    (repeat (first|refine zS ?_|refine zR ?_|refine zB ?_|refine zL ?_|refine zC ?_|refine zG (zN ?_)|refine zG (zD 0 rfl rfl rfl rfl ?_)|refine zG (zU rfl rfl rfl ?_)))
    refine VC.condT rfl ?_
    (repeat (first|refine zS ?_|refine zR ?_|refine zB ?_|refine zL ?_|refine zC ?_|refine zG (zN ?_)|refine zG (zD 0 rfl rfl rfl rfl ?_)))
    exact VC.ret (Ret.tmp2 4 5 rfl rfl rfl Ent.refl ⟨by rw [lastR, if_neg (by omega)], rfl⟩)
  · refine VO.go (VO.yes 12 false rfl (decide_eq_false h0) ?_)
    (repeat (first|refine zS ?_|refine zR ?_|refine zB ?_|refine zL ?_|refine zC ?_|refine zG (zN ?_)|refine zG (zD 0 rfl rfl rfl rfl ?_)|refine zG (zU rfl rfl rfl ?_)))
    refine VC.condP rfl (fun h1 => ?_) (fun h1 => VC.skip ?_)
    · (repeat (first|refine zS ?_|refine zR ?_|refine zB ?_|refine zL ?_|refine zC ?_|refine zG (zN ?_)|refine zG (zD 0 rfl rfl rfl rfl ?_)))
      exact VC.ret (Ret.tmp2 4 5 rfl rfl rfl Ent.refl ⟨by rw [lastR, if_neg (by omega)], rfl⟩)
    · obtain ⟨k, rfl⟩ : ∃ k : Nat, c = k := ⟨c.toNat, by omega⟩
      obtain ⟨l1, l2⟩ := lastsC_at (es := es) (c := k) (by omega)
      have q1 : (logCs es x)[0 + 3 + k * 2 + 0]? = some (.int .i64 (lastOf es (k : Nat)).1) := by rw [show 0 + 3 + k * 2 + 0 = k * 2 + 3 by omega]; exact l1
      have q2 : (logCs es x)[0 + 3 + k * 2 + 1]? = some (.int .i64 (lastOf es (k : Nat)).2) := by rw [show 0 + 3 + k * 2 + 1 = k * 2 + 1 + 3 by omega]; exact l2
      refine VC.seq (VC.draw (ts 0 16 .nil) (by kernel_rfl) (by decide +kernel) ?_)
      (repeat (first|refine yG (yN ?_)|refine yG (yD 0 rfl rfl rfl rfl rfl ?_)))
      refine VA.go (VA.light rfl (light_idxA k rfl rfl rfl rfl rfl rfl (by omega)) ?_)
      (repeat (first|refine yG (yN ?_)|refine yG (yD 0 rfl rfl rfl rfl rfl ?_)))
      refine VA.go (VA.load rfl rfl rfl (RdL.blk hx.blk q1) ?_)
      (repeat (first|refine yG (yN ?_)|refine yG (yD 0 rfl rfl rfl rfl rfl ?_)))
      refine VA.go (VA.light rfl (light_idxA k rfl rfl rfl rfl rfl rfl (by omega)) ?_)
      (repeat (first|refine yG (yN ?_)|refine yG (yD 0 rfl rfl rfl rfl rfl ?_)))
      refine VA.go (VA.load rfl rfl rfl (RdL.blk hx.blk q2) ?_)
      (repeat (first|refine yG (yN ?_)|refine yG (yD 0 rfl rfl rfl rfl rfl ?_)))
      exact VC.ret (Ret.tmp2 4 5 rfl rfl rfl Ent.refl ⟨by rw [lastR, if_pos (by omega)], rfl⟩)
theorem look_spec (Fr : Nat → Prop) (w : World) (h : SatIn Fr [logH p es] w) (k : ByteArray) : Tri Tryz.prog 136 [.pointer (some ⟨p, 0, none⟩), .string k] Fr w []
    (fun v L => v = .agg (resC (kvLook (logRun es).1 k es.length)).toArray ∧ L = []) := by
  obtain ⟨x, hx⟩ := LogIn.of h
  have hb := hx.blk
  unfold logCs at hb
  refine Tri.of 19 Tryz.func136 rfl (by kernel_rfl) tabOk rfl rfl ?_
  refine VC.seq (VC.region (VO.go (VO.alloc rfl fun rb => ?_)))
  (repeat (first|refine zS ?_|refine zR ?_|refine zB ?_|refine zL ?_|refine zC ?_|refine zG (zN ?_)|refine zG (zD 0 rfl rfl rfl rfl ?_)))
  refine VO.go (VO.callV' (fun Fr w hF hs hS => none_spec Fr w (hb.of hF hs)) rfl ?_)
  (repeat (first|refine zS ?_|refine zR ?_|refine zB ?_|refine zL ?_|refine zC ?_|refine zG (zN ?_)|refine zG (zD 0 rfl rfl rfl rfl ?_)))
  refine VC.condF rfl (VC.skip ?_)
  refine VC.seq (VC.draw (ts 0 10 (.only 10 (.only 11 .nil))) (by kernel_rfl) (by decide +kernel) ?_)
  (repeat (first|refine yG (yN ?_)|refine yG (yE rfl rfl rfl (RdL.blk hb rfl) ?_)))
  refine VA.go (VA.callR (fun Fr w hF hs hS => Kv.look_spec Fr w (hx.kv.of hF hs) k es.length) rfl rfl (by (try refine Pd.st ?_);(repeat (first|exact Pd.nil|exact Pd.fnil|refine Pd.inner ?_|refine Pd.skip (by decide +kernel) ?_|refine zf (RdL.blk (RdL.blk hb rfl) rfl) ?_|refine zf ((RdL.blk hb rfl)) ?_|refine zc (RdL.blk (RdL.blk hb rfl) rfl) ?_|refine zc ((RdL.blk hb rfl)) ?_))) ?_)
  refine VA.go (VA.stA (vs := resC (kvLook (logRun es).1 k es.length)) 0 rfl rfl rfl rfl rfl (Nat.le_refl _) rfl rfl rfl (by (try refine Pd.st ?_);(repeat (first|exact Pd.nil|exact Pd.fnil|refine Pd.inner ?_|refine Pd.skip (by decide +kernel) ?_|refine zf (zo 0 rfl rfl) ?_|refine zf (zm 0 rfl rfl) ?_|refine zf (RdL.blk (RdL.blk hb rfl) rfl) ?_|refine zf ((RdL.blk hb rfl)) ?_|refine zc (zo 0 rfl rfl) ?_|refine zc (zm 0 rfl rfl) ?_|refine zc (RdL.blk (RdL.blk hb rfl) rfl) ?_|refine zc ((RdL.blk hb rfl)) ?_))) ?_)
  (repeat (first|refine yG (yN ?_)|refine yG (yD 0 rfl rfl rfl rfl rfl ?_)))
  exact VC.ret (Ret.cell 4 rfl rfl rfl (RdL.many (ds := resC (kvLook (logRun es).1 k es.length)) 0 rfl rfl) Imp.nil.ent ⟨rfl, rfl⟩)
end
end Go.Proofs.YtbbnmgakmcppdaaGreat.Lg
