/- BruteSerial: calls done one after the other are linear; with one version changed they are not. No condition but the table of powers of ten. -/
import Derived.Test.YthabecjplpomhaaDoorBrS
namespace Go.Proofs.YthabecjplpomhaaDoor.Br
open Go Go.Proofs.YthabecjplpomhaaDoor.Vg Go.Proofs.YthabecjplpomhaaDoor.T Go.Proofs.YthabecjplpomhaaDoor.Api Go.Proofs.YthabecjplpomhaaDoor.Kv Go.Proofs.YthabecjplpomhaaDoor.LibC
set_option linter.unusedSimpArgs false
set_option linter.unusedVariables false
attribute [local irreducible] VO VC VA

/-- What has been done so far, and the store that it leaves. -/
structure SerI (l : List RecM) (S : KvM) (n : Nat) : Prop where
  ser : Serial l
  ops : ∀ r ∈ l, opCheck r.op = 0
  st : stAt l l.length = (mGet S, (n : Int))
  res : ∀ i, i < l.length → (at_ l i).res = (stp (stAt l i).1 (stAt l i).2 (at_ l i)).2.2
  ver : ∀ i, i < l.length → -1 ≤ (at_ l i).res.version ∧ (at_ l i).res.version ≤ 5000
  good : GoodN S n
  few : n ≤ l.length
  nd : (S.map Prod.fst).Nodup
theorem SerI.nil : SerI [] [] 0 where
  ser := ⟨fun i h => by simp at h, fun i h => by simp at h, fun i h => by simp at h⟩
  ops := by simp
  st := rfl
  res := fun i h => by simp at h
  ver := fun i h => by simp at h
  good := ⟨Nat.le_refl _, by simp⟩
  few := Nat.le_refl _
  nd := .nil
theorem stAt_app {l : List RecM} {r : RecM} : ∀ {i : Nat}, i ≤ l.length → stAt (l ++ [r]) i = stAt l i
  | 0, _ => rfl
  | i + 1, h => by rw [stAt, stAt, stAt_app (by omega), at_app (by omega)]
theorem stp_op {f : F} {n : Int} {r r' : RecM} (h : r.op = r'.op) : stp f n r = stp f n r' := by unfold stp; rw [h]
theorem stpK_op {S : KvM} {n : Nat} {r r' : RecM} (h : r.op = r'.op) : stpK S n r = stpK S n r' := by unfold stpK; rw [h]
theorem mem_of_get {S : KvM} {k : ByteArray} {x : ByteArray × Int} (h : mGet S k = some x) : (k, x) ∈ S := by
  induction S with
  | nil => cases h
  | cons y S ih =>
    rw [mGet] at h
    split at h
    · rename_i he
      cases h; subst he; simp
    · exact List.mem_cons_of_mem _ (ih h)
theorem look_ver {S : KvM} {n : Nat} (h : GoodN S n) (k : ByteArray) (x : Int) : -1 ≤ (kvLook S k x).version ∧ (kvLook S k x).version ≤ 5000 := by
  unfold kvLook
  split
  · exact ⟨by dsimp only; omega, by dsimp only; omega⟩
  · rename_i v m hg
    exact (h.at_ _ (mem_of_get hg)).2.2
theorem cell_ver {S : KvM} {n : Nat} (h : GoodN S n) (k : ByteArray) : -1 ≤ ((mGet S k).getD (nilB, 0)).2 ∧ ((mGet S k).getD (nilB, 0)).2 ≤ 5000 := by
  cases hg : mGet S k with
  | none => exact ⟨by show (-1 : Int) ≤ 0; omega, by show (0 : Int) ≤ 5000; omega⟩
  | some x => exact (h.at_ _ (mem_of_get hg)).2.2
theorem stpK_ver {S : KvM} {n : Nat} (h : GoodN S n) (hn : n ≤ 4000) (r : RecM) : -1 ≤ (stpK S n r).2.2.version ∧ (stpK S n r).2.2.version ≤ 5000 := by
  unfold stpK
  split
  · exact look_ver h _ _
  · show -1 ≤ (kvApply S (n + 1 : Nat) r.op).2.version ∧ (kvApply S (n + 1 : Nat) r.op).2.version ≤ 5000
    unfold kvApply
    split
    · exact ⟨by show (-1 : Int) ≤ 0; omega, by show (0 : Int) ≤ 5000; omega⟩
    split
    · exact look_ver h _ _
    split
    · split
      · exact ⟨by show (-1 : Int) ≤ 0; omega, by show (0 : Int) ≤ 5000; omega⟩
      · exact ⟨by show (-1 : Int) ≤ 0; omega, by show (0 : Int) ≤ 5000; omega⟩
    split
    · exact cell_ver h _
    · exact ⟨by dsimp only; omega, by dsimp only; omega⟩
theorem at_last {l : List RecM} {r : RecM} : at_ (l ++ [r]) l.length = r := by simp [at_]
theorem SerI.snoc {l : List RecM} {S : KvM} {n : Nat} (h : SerI l S n) (hl : l.length ≤ 1000) {r : RecM} (ho : opCheck r.op = 0) (hk : r.kind = 1) (hf : r.frm = 2 * l.length) (ht : r.to = 2 * l.length + 1) (hr : r.res = (stpK S n r).2.2) : SerI (l ++ [r]) (stpK S n r).1 (stpK S n r).2.1 := by
  have hlast : ∀ {P : Nat → Prop}, (∀ i, i < l.length → P i) → P l.length → ∀ i, i < (l ++ [r]).length → P i := fun {P} h1 h2 i hi => by
    rcases Nat.lt_or_ge i l.length with h3 | h3
    · exact h1 i h3
    · have : i = l.length := by simp at hi; omega
      rw [this]; exact h2
  have hF := stpK_F h.nd n r
  have hn := h.few
  refine ⟨⟨hlast (fun i hi => by rw [at_app hi]; exact h.ser.done i hi) (by rw [at_last]; exact hk), hlast (fun i hi => by rw [at_app hi]; exact h.ser.frm i hi) (by rw [at_last]; exact hf), hlast (fun i hi => by rw [at_app hi]; exact h.ser.to i hi) (by rw [at_last]; exact ht)⟩, fun x hx => ?_, ?_, hlast (fun i hi => ?_) ?_, hlast (fun i hi => by rw [at_app hi]; exact h.ver i hi) ?_, stpK_good h.good (by omega) ho, ?_, stpK_nodup h.nd n r⟩
  · rcases List.mem_append.1 hx with hx | hx
    · exact h.ops x hx
    · obtain rfl : x = r := by simpa using hx
      exact ho
  · rw [show (l ++ [r]).length = l.length + 1 by simp, stAt, stAt_app (Nat.le_refl _), at_last, h.st]
    show (((stp (mGet S) (n : Int) r).1, (stp (mGet S) (n : Int) r).2.1) : F × Int) = _
    rw [hF]
  · rw [at_app hi, stAt_app (by omega)]; exact h.res i hi
  · rw [at_last, stAt_app (Nat.le_refl _), h.st]
    show r.res = (stp (mGet S) (n : Int) r).2.2
    rw [hF]; exact hr
  · rw [at_last, hr]; exact stpK_ver h.good (by omega) r
  · rw [show (l ++ [r]).length = l.length + 1 by simp]
    unfold stpK
    split
    · show n ≤ _; omega
    · show n + 1 ≤ _; omega
theorem tells_self {r : RecM} {x : ResM} (h : r.res = x) : tells r x = true := by
  subst h
  simp [tells]
theorem SerI.yes {l : List RecM} {S : KvM} {n : Nat} (h : SerI l S n) (hl : l.length ≤ 8) : linOk l = true ∧ checkM l = 0 := by
  have ho : opsOk l = true := List.all_eq_true.2 fun r hr => decide_eq_true (h.ops r hr)
  have hc : checkM l = 0 := by rw [checkM, if_neg (by omega), ho]; rfl
  refine ⟨?_, hc⟩
  rw [linOk, hc, serial_yes h.ser fun i hi => tells_self (h.res i hi)]; rfl
/-- One version changed. -/
def badV (r : RecM) : RecM := { r with res := { r.res with version := r.res.version + 100 } }
theorem at_set {l : List RecM} {k i : Nat} {r : RecM} (hk : k < l.length) : at_ (l.set k r) i = if i = k then r else at_ l i := by
  unfold at_
  rw [List.getD_eq_getElem?_getD, List.getD_eq_getElem?_getD, List.getElem?_set]
  by_cases h : i = k
  · subst h; simp [hk]
  · simp [h, Ne.symm h]
theorem stAt_set {l : List RecM} {k : Nat} (hk : k < l.length) : ∀ i, stAt (l.set k (badV (at_ l k))) i = stAt l i
  | 0 => rfl
  | i + 1 => by
    have e : (at_ (l.set k (badV (at_ l k))) i).op = (at_ l i).op := by
      rw [at_set hk]; split
      · rename_i he; subst he; rfl
      · rfl
    rw [stAt, stAt, stAt_set hk i, stp_op e]
theorem SerI.no {l : List RecM} {S : KvM} {n : Nat} (h : SerI l S n) (hl : l.length ≤ 8) {k : Nat} (hk : k < l.length) : linOk (l.set k (badV (at_ l k))) = false ∧ checkM (l.set k (badV (at_ l k))) = 0 := by
  have hx : ∀ i, ((at_ (l.set k (badV (at_ l k))) i).kind = (at_ l i).kind ∧ (at_ (l.set k (badV (at_ l k))) i).frm = (at_ l i).frm ∧ (at_ (l.set k (badV (at_ l k))) i).to = (at_ l i).to) := fun i => by
    rw [at_set hk]; split
    · rename_i he; subst he; exact ⟨rfl, rfl, rfl⟩
    · exact ⟨rfl, rfl, rfl⟩
  have hs : Serial (l.set k (badV (at_ l k))) := by
    refine ⟨fun i hi => ?_, fun i hi => ?_, fun i hi => ?_⟩ <;> rw [List.length_set] at hi
    · rw [(hx i).1]; exact h.ser.done i hi
    · rw [(hx i).2.1]; exact h.ser.frm i hi
    · rw [(hx i).2.2]; exact h.ser.to i hi
  have ho : opsOk (l.set k (badV (at_ l k))) = true := List.all_eq_true.2 fun r hr => decide_eq_true (by
    rcases List.mem_or_eq_of_mem_set hr with hr | rfl
    · exact h.ops r hr
    · exact h.ops (at_ l k) (List.mem_of_getElem? (at_get hk)))
  have hc : checkM (l.set k (badV (at_ l k))) = 0 := by rw [checkM, if_neg (by rw [List.length_set]; omega), ho]; rfl
  refine ⟨?_, hc⟩
  have : orderM (l.set k (badV (at_ l k))) = none := by
    refine serial_no (k := k) hs (by rw [List.length_set]; exact hk) ?_
    rw [stAt_set hk, at_set hk, if_pos rfl, stp_op (show (badV (at_ l k)).op = (at_ l k).op from rfl), ← h.res k hk]
    have hd : (badV (at_ l k)).done = true := by show ((at_ l k).kind == 1) = true; rw [h.ser.done k hk]; rfl
    have hv : ((at_ l k).res.version == (badV (at_ l k)).res.version) = false := beq_false_of_ne (by show (at_ l k).res.version ≠ (at_ l k).res.version + 100; omega)
    rw [tells, hd, hv]; simp
  rw [linOk, this]; simp

set_option maxRecDepth 100000 in
set_option maxHeartbeats 1000000 in
theorem serial_spec (Fr : Nat → Prop) (w : World) {a : Option Addr} {cap : Nat} {xs : List SmM} (h : RwIn smC 9 Fr w a xs) (hl : xs.length ≤ 7) (hok : ∀ s ∈ xs, s.Ok) :
    Tri Tryd.prog 12 [.slice a xs.length cap] Fr w [] (fun v L => ∃ (l : List RecM) (S : KvM) (n : Nat) (a' : Option Addr) (c' : Nat), l.length = xs.length ∧ SerI l S n ∧ v = .slice a' l.length c' ∧ L = [slH 34 14 a' l.length c' (flat recC l)]) := by
  refine Tri.of 55 Tryd.func12 rfl (by kernel_rfl) tabOk rfl rfl ?_
  (repeat (first | refine VC.seq ?_ | refine VC.region ?_ | refine VC.block ?_ | refine VC.label ?_ | refine VC.scope ?_ | refine VO.go (VO.nil ?_) | refine VO.go (VO.ld 0 rfl rfl rfl rfl ?_)))
  refine VO.go (VO.call (Lc := []) (fun Fr w hF hs hS => new_spec Fr w) rfl rfl ?_)
  rintro _ _ ⟨p, rfl, rfl⟩
  (repeat (first | refine VC.seq ?_ | refine VC.region ?_ | refine VC.block ?_ | refine VC.label ?_ | refine VC.scope ?_ | refine VO.go (VO.nil ?_) | refine VO.go (VO.ld 0 rfl rfl rfl rfl ?_)))
  refine VC.loop (σ := List RecM × KvM × Nat × Option Addr × Nat) (fun x => [(0, .slice a xs.length cap), (3, .slice x.2.2.2.1 x.1.length x.2.2.2.2), (4, .int .i64 x.2.2.1), (5, .pointer (some ⟨p, 0, none⟩)), (6, .int .i64 x.1.length)]) (fun x => [slH 34 14 x.2.2.2.1 x.1.length x.2.2.2.2 (flat recC x.1), kvH p x.2.1]) (fun x => x.1.length ≤ xs.length ∧ SerI x.1 x.2.1 x.2.2.1) (fun x => xs.length - x.1.length) ([], [], 0, none, 0)
    ⟨Nat.zero_le _, SerI.nil⟩ (Sub.cons rfl (Sub.cons rfl (Sub.cons rfl (Sub.cons rfl (Sub.cons rfl (Sub.nil _)))))) (Imp.slNil (Imp.pick 0 rfl Imp.nil)).ent ?_
  rintro ⟨l, S, n, a1, c1⟩ ⟨hi, hI⟩
  dsimp only at hi hI ⊢
  have hfew := hI.few
  (repeat (first | refine VC.seq ?_ | refine VC.region ?_ | refine VC.block ?_ | refine VC.label ?_ | refine VC.scope ?_ | refine VO.go (VO.nil ?_) | refine VO.go (VO.ld 0 rfl rfl rfl rfl ?_)))
  refine VC.condP rfl (fun h1 => VC.skip ?_) (fun h1 => VC.exit ?_)
  · have hi2 : l.length < xs.length := by omega
    obtain ⟨s, hs⟩ : ∃ s, xs[l.length]? = some s := ⟨_, List.getElem?_eq_getElem hi2⟩
    obtain ⟨fb, fo, rfl, ra, rc⟩ := RwIn.rd (X := ⟨Tryd.prog, tab, tabOk, 55, Fr, w⟩) h hs
    (repeat (first | refine VC.seq ?_ | refine VC.region ?_ | refine VC.block ?_ | refine VC.label ?_ | refine VC.scope ?_ | refine VO.go (VO.nil ?_) | refine VO.go (VO.ld 0 rfl rfl rfl rfl ?_)))
    refine VO.go (VO.light (light_idx l.length rfl rfl rfl rfl rfl rfl hi2) ?_)
    refine VO.go (VO.load rfl rfl (ra _ _ rfl rfl) ?_)
    (repeat (first | refine VC.seq ?_ | refine VC.region ?_ | refine VC.block ?_ | refine VC.label ?_ | refine VC.scope ?_ | refine VO.go (VO.nil ?_) | refine VO.go (VO.ld 0 rfl rfl rfl rfl ?_)))
    refine VO.go (VO.callP (fun Fr w hF _ _ => record_spec Fr w (hok s (List.mem_of_getElem? hs)) l.length (by omega)) rfl ?_)
    rintro _ ⟨r, hr, rfl⟩
    refine VO.go (VO.alloc rfl fun rb => ?_)
    refine VO.go (VO.stA (vs := recC r) 0 rfl rfl rfl rfl (Nat.le_refl _) rfl rfl rfl ?_)
    (repeat (first | refine VC.seq ?_ | refine VC.region ?_ | refine VC.block ?_ | refine VC.label ?_ | refine VC.scope ?_ | refine VO.go (VO.nil ?_) | refine VO.go (VO.ld 0 rfl rfl rfl rfl ?_)))
    refine VO.go (VO.arith (2 * (l.length : Int)) rfl rfl (i64_in _ (by omega) (by omega)) ?_)
    (repeat (first | refine VC.seq ?_ | refine VC.region ?_ | refine VC.block ?_ | refine VC.label ?_ | refine VC.scope ?_ | refine VO.go (VO.nil ?_) | refine VO.go (VO.ld 0 rfl rfl rfl rfl ?_)))
    refine VO.go (VO.arith (2 * (l.length : Int)) rfl rfl (i64_in _ (by omega) (by omega)) ?_)
    refine VO.go (VO.add rfl rfl (by omega) (by omega) ?_)
    (repeat (first | refine VC.seq ?_ | refine VC.region ?_ | refine VC.block ?_ | refine VC.label ?_ | refine VC.scope ?_ | refine VO.go (VO.nil ?_) | refine VO.go (VO.ld 0 rfl rfl rfl rfl ?_)))
    refine VO.go (VO.st 0 (cs' := recC { r with frm := 2 * (l.length : Int) }) rfl rfl rfl rfl (Nat.le_of_ble_eq_true rfl) rfl rfl ?_)
    (repeat (first | refine VC.seq ?_ | refine VC.region ?_ | refine VC.block ?_ | refine VC.label ?_ | refine VC.scope ?_ | refine VO.go (VO.nil ?_) | refine VO.go (VO.ld 0 rfl rfl rfl rfl ?_)))
    refine VO.go (VO.st 0 (cs' := recC { r with frm := 2 * (l.length : Int), to := 2 * (l.length : Int) + 1 }) rfl rfl rfl rfl (Nat.le_of_ble_eq_true rfl) rfl rfl ?_)
    (repeat (first | refine VC.seq ?_ | refine VC.region ?_ | refine VC.block ?_ | refine VC.label ?_ | refine VC.scope ?_ | refine VO.go (VO.nil ?_) | refine VO.go (VO.ld 0 rfl rfl rfl rfl ?_)))
    refine VO.go (VO.light (light_build (pv := [(0, .int .i64 1)]) (Value.int .i64 1 :: Value.int .i64 0 :: resC resZ) rfl rfl rfl (by kernel_rfl) rfl) ?_)
    (repeat (first | refine VC.seq ?_ | refine VC.region ?_ | refine VC.block ?_ | refine VC.label ?_ | refine VC.scope ?_ | refine VO.go (VO.nil ?_) | refine VO.go (VO.ld 0 rfl rfl rfl rfl ?_)))
    refine VO.go (VO.stA (vs := Value.int .i64 1 :: Value.int .i64 0 :: resC resZ) (cs' := recC ⟨r.client, r.seq, r.op, 2 * (l.length : Int), 2 * (l.length : Int) + 1, 1, 0, resZ⟩) 0 rfl rfl rfl rfl (Nat.le_of_ble_eq_true rfl) rfl rfl rfl ?_)
    (repeat (first | refine VC.seq ?_ | refine VC.region ?_ | refine VC.block ?_ | refine VC.label ?_ | refine VC.scope ?_ | refine VO.go (VO.nil ?_) | refine VO.go (VO.ld 0 rfl rfl rfl rfl ?_)))
    refine VO.go (VO.ldA 0 r.op.cells rfl rfl rfl rfl ?_)
    refine VO.go (VO.callV (fun Fr w => reads_spec Fr w r.op) rfl ?_)
    refine VO.go (VO.nil ?_)
    generalize hq : (⟨r.client, r.seq, r.op, 2 * (l.length : Int), 2 * (l.length : Int) + 1, 1, 0, resZ⟩ : RecM) = q
    have hqo : q.op = r.op := by rw [← hq]
    refine VC.meetS (σ := Unit) (fun _ => [(0, .slice (some ⟨fb, fo, none⟩) xs.length cap), (3, .slice a1 l.length c1), (4, .int .i64 (stpK S n q).2.1), (5, .pointer (some ⟨p, 0, none⟩)), (6, .int .i64 l.length), (7, .pointer (some ⟨rb, 0, none⟩))])
      (fun _ => [pt rb (recC { q with res := (stpK S n q).2.2 }) 34, slH 34 14 a1 l.length c1 (flat recC l), kvH p (stpK S n q).1]) (fun _ => True) ?_ ?_
    · refine VC.cond rfl (fun h4 => ?_) (fun h4 => ?_)
      · have e1 : stpK S n q = (S, n, kvLook S r.op.key n) := by unfold stpK; rw [hqo, if_pos (show reads r.op = true from h4)]
        rw [e1]
        subst hq
        (repeat (first | refine VC.seq ?_ | refine VC.region ?_ | refine VC.block ?_ | refine VC.label ?_ | refine VC.scope ?_ | refine VO.go (VO.nil ?_) | refine VO.go (VO.ld 0 rfl rfl rfl rfl ?_) | refine VO.go (VO.ld 1 rfl rfl rfl rfl ?_) | refine VO.go (VO.ld 2 rfl rfl rfl rfl ?_)))
        refine VO.go (VO.callV' (fun Fr w hF hs hS => look_spec Fr w (hS.at_ 2 rfl) r.op.key n) rfl ?_)
        (repeat (first | refine VC.seq ?_ | refine VC.region ?_ | refine VC.block ?_ | refine VC.label ?_ | refine VC.scope ?_ | refine VO.go (VO.nil ?_) | refine VO.go (VO.ld 0 rfl rfl rfl rfl ?_)))
        refine VO.go (VO.stA (vs := resC (kvLook S r.op.key n)) 0 rfl rfl rfl rfl (Nat.le_of_ble_eq_true rfl) rfl rfl rfl ?_)
        (repeat (first | refine VC.seq ?_ | refine VC.region ?_ | refine VC.block ?_ | refine VC.label ?_ | refine VC.scope ?_ | refine VO.go (VO.nil ?_) | refine VO.go (VO.ld 0 rfl rfl rfl rfl ?_)))
        exact ⟨(), trivial, Sub.cons rfl (Sub.cons rfl (Sub.cons rfl (Sub.cons rfl (Sub.cons rfl (Sub.cons rfl (Sub.nil _)))))), Ent.refl⟩
      · have e1 : stpK S n q = ((kvApply S (n + 1 : Nat) r.op).1, n + 1, (kvApply S (n + 1 : Nat) r.op).2) := by unfold stpK; rw [hqo, if_neg (by rw [show reads r.op = false from h4]; simp)]
        rw [e1]
        subst hq
        (repeat (first | refine VC.seq ?_ | refine VC.region ?_ | refine VC.block ?_ | refine VC.label ?_ | refine VC.scope ?_ | refine VO.go (VO.nil ?_) | refine VO.go (VO.ld 0 rfl rfl rfl rfl ?_)))
        refine VO.go (VO.add rfl rfl (by omega) (by omega) ?_)
        (repeat (first | refine VC.seq ?_ | refine VC.region ?_ | refine VC.block ?_ | refine VC.label ?_ | refine VC.scope ?_ | refine VO.go (VO.nil ?_) | refine VO.go (VO.ld 0 rfl rfl rfl rfl ?_) | refine VO.go (VO.ld 1 rfl rfl rfl rfl ?_) | refine VO.go (VO.ld 2 rfl rfl rfl rfl ?_)))
        refine VO.go (VO.ldA 0 r.op.cells rfl rfl rfl rfl ?_)
        refine VO.go (VO.callAt 2 rfl (fun Fr w hF hs hS => apply_spec Fr w p S (n + 1 : Nat) r.op) rfl (ψ := fun v H => v = .agg (resC (kvApply S (n + 1 : Nat) r.op).2).toArray ∧ H = kvH p (kvApply S (n + 1 : Nat) r.op).1) (fun v L h => ⟨_, h.2, h.1, rfl⟩) ?_)
        rintro _ _ ⟨rfl, rfl⟩
        (repeat (first | refine VC.seq ?_ | refine VC.region ?_ | refine VC.block ?_ | refine VC.label ?_ | refine VC.scope ?_ | refine VO.go (VO.nil ?_) | refine VO.go (VO.ld 0 rfl rfl rfl rfl ?_)))
        refine VO.go (VO.stA (vs := resC (kvApply S (n + 1 : Nat) r.op).2) 0 rfl rfl rfl rfl (Nat.le_of_ble_eq_true rfl) rfl rfl rfl ?_)
        (repeat (first | refine VC.seq ?_ | refine VC.region ?_ | refine VC.block ?_ | refine VC.label ?_ | refine VC.scope ?_ | refine VO.go (VO.nil ?_) | refine VO.go (VO.ld 0 rfl rfl rfl rfl ?_)))
        exact ⟨(), trivial, Sub.cons rfl (Sub.cons rfl (Sub.cons rfl (Sub.cons rfl (Sub.cons rfl (Sub.cons rfl (Sub.nil _)))))), Ent.refl⟩
    intro _ _
    generalize hq2 : ({ q with res := (stpK S n q).2.2 } : RecM) = q2
    have hq2o : q2.op = q.op := by rw [← hq2]
    have hI2 : SerI (l ++ [q2]) (stpK S n q2).1 (stpK S n q2).2.1 := by
      refine hI.snoc (by omega) (by rw [hq2o, hqo]; exact hr) (by rw [← hq2, ← hq]) (by rw [← hq2, ← hq]) (by rw [← hq2, ← hq]) ?_
      rw [stpK_op hq2o, ← hq2]
    rw [stpK_op hq2o] at hI2
    have hL : (l ++ [q2]).length = l.length + 1 := by simp
    have hF2 : flat recC (l ++ [q2]) = flat recC l ++ recC q2 := by simp [flat_append, flat_cons, flat_nil]
    (repeat (first | refine VC.seq ?_ | refine VC.region ?_ | refine VC.block ?_ | refine VC.label ?_ | refine VC.scope ?_ | refine VO.go (VO.nil ?_) | refine VO.go (VO.ld 0 rfl rfl rfl rfl ?_)))
    refine VO.go (VO.ldA 0 (recC q2) rfl rfl rfl rfl ?_)
    refine VO.go (VO.buildSlice (n := 1) (pv := [(0, .agg (recC q2).toArray)]) (recC q2) rfl rfl rfl rfl (by decide) (fill_one rfl rfl rfl) fun nb => ?_)
    refine VO.go (VO.append (m := 1) (news := recC q2) 2 rfl rfl rfl rfl rfl rfl rfl (RdRow.pt 0 rfl rfl rfl) rfl (by show (l.length + 1) * 136 ≤ _; omega) (by omega) fun a2 c2 hc2 => ?_)
    (repeat (first | refine VC.seq ?_ | refine VC.region ?_ | refine VC.block ?_ | refine VC.label ?_ | refine VC.scope ?_ | refine VO.go (VO.nil ?_) | refine VO.go (VO.ld 0 rfl rfl rfl rfl ?_)))
    refine VO.go (VO.add rfl rfl (by omega) (by omega) ?_)
    (repeat (first | refine VC.seq ?_ | refine VC.region ?_ | refine VC.block ?_ | refine VC.label ?_ | refine VC.scope ?_ | refine VO.go (VO.nil ?_) | refine VO.go (VO.ld 0 rfl rfl rfl rfl ?_)))
    refine ⟨(l ++ [q2], (stpK S n q).1, (stpK S n q).2.1, a2, c2), ⟨by dsimp only; omega, hI2⟩, by dsimp only; omega, Sub.cons rfl (Sub.cons (by rw [hL]; rfl) (Sub.cons rfl (Sub.cons rfl (Sub.cons (by rw [hL]; rfl) (Sub.nil _))))), ?_⟩
    dsimp only
    rw [hL, hF2]
    exact (Imp.pick 0 rfl (Imp.pick 2 rfl Imp.nil)).ent
  · (repeat (first | refine VC.seq ?_ | refine VC.region ?_ | refine VC.block ?_ | refine VC.label ?_ | refine VC.scope ?_ | refine VO.go (VO.nil ?_) | refine VO.go (VO.ld 0 rfl rfl rfl rfl ?_)))
    exact VC.ret (Ret.tmp 2 rfl rfl (Imp.pick 0 rfl Imp.nil).ent ⟨l, S, n, a1, c1, by omega, hI, rfl, rfl⟩)
end Go.Proofs.YthabecjplpomhaaDoor.Br
