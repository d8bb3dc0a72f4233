/- The engine, part D: reads, writes, new variables, addresses. No program is named; nothing is assumed. -/
import Derived.Test.YtbbnmgakmcppdaaGreatVgC
namespace Go.Proofs.YtbbnmgakmcppdaaGreat.Vg
open Go

/-! ### One block, stored into -/
def wrC (cs : List Value) (off : Nat) (vs : List Value) : List Value := cs.take off ++ vs ++ cs.drop (off + vs.length)

theorem wrC_length {cs vs : List Value} {off : Nat} (h : off + vs.length ≤ cs.length) : (wrC cs off vs).length = cs.length := by
  simp [wrC]; omega

theorem wrC_nil (cs : List Value) (off : Nat) : wrC cs off [] = cs := by simp [wrC]

theorem wrC_one (cs : List Value) (off : Nat) (v : Value) (h : off < cs.length) : wrC cs off [v] = cs.set off v := by
  simp [wrC, List.set_eq_take_append_cons_drop, h]

theorem wrC_cons {cs vs : List Value} {off : Nat} {v : Value} (h : off + (vs.length + 1) ≤ cs.length) : wrC (cs.set off v) (off + 1) vs = wrC cs off (v :: vs) := by
  unfold wrC
  have h1 : off < cs.length := by omega
  rw [List.set_eq_take_append_cons_drop, if_pos h1]
  have e1 : (cs.take off ++ v :: cs.drop (off + 1)).take (off + 1) = cs.take off ++ [v] := by
    rw [List.take_append, List.length_take, Nat.min_eq_left (by omega), show off + 1 - off = 1 from by omega, List.take_of_length_le (by simp; omega)]
    simp
  have e2 : (cs.take off ++ v :: cs.drop (off + 1)).drop (off + 1 + vs.length) = cs.drop (off + (vs.length + 1)) := by
    rw [List.drop_append, List.length_take, Nat.min_eq_left (by omega), List.drop_of_length_le (by simp; omega)]
    rw [show off + 1 + vs.length - off = vs.length + 1 from by omega]
    simp; congr 1; omega
  rw [e1, e2]
  simp

def setBlk (w : World) (b : Nat) (o : Obj) : World := { w with heap := w.heap.setIfInBounds b o }
theorem setBlk_self {w : World} {b : Nat} {o : Obj} (h : w.heap[b]? = some o) : setBlk w b o = w := by
  unfold setBlk
  have : w.heap.setIfInBounds b o = w.heap := by
    apply Array.ext_getElem?
    intro i
    by_cases hi : b = i
    · subst hi
      have hlt : b < w.heap.size := (Array.getElem?_eq_some_iff.1 h).1
      rw [Array.getElem?_setIfInBounds_self_of_lt hlt, h]
    · rw [Array.getElem?_setIfInBounds_ne hi]
  rw [this]
theorem setBlk_setBlk (w : World) (b : Nat) (o o' : Obj) : setBlk (setBlk w b o) b o' = setBlk w b o' := by
  simp [setBlk]
theorem heap_setBlk {w : World} {b : Nat} {o o' : Obj} (h : w.heap[b]? = some o') : (setBlk w b o).heap[b]? = some o := by
  have hlt : b < w.heap.size := (Array.getElem?_eq_some_iff.1 h).1
  simp [setBlk, hlt]
theorem heap_setBlk_ne {w : World} {b c : Nat} {o : Obj} (h : b ≠ c) : (setBlk w b o).heap[c]? = w.heap[c]? := by
  simp [setBlk, Array.getElem?_setIfInBounds_ne h]
theorem size_setBlk (w : World) (b : Nat) (o : Obj) : (setBlk w b o).heap.size = w.heap.size := by simp [setBlk]

theorem setCell_setBlk {w : World} {b off : Nat} {cs : List Value} {t : TypeId} {v : Value} (h : w.heap[b]? = some (.cells cs.toArray t (0, 0))) :
    w.setCell ⟨b, off, none⟩ v = setBlk w b (.cells (cs.set off v).toArray t (0, 0)) := by
  have hlt : b < w.heap.size := (Array.getElem?_eq_some_iff.1 h).1
  have e : (w.setCell ⟨b, off, none⟩ v).heap = w.heap.setIfInBounds b (.cells (cs.set off v).toArray t (0, 0)) := by
    apply Array.ext_getElem?
    intro i
    by_cases hi : i = b
    · subst hi
      rw [heap_setCell_same w i off cs.toArray t v h, Array.getElem?_setIfInBounds_self_of_lt hlt]
      simp
    · rw [heap_setCell_other w _ i v hi, Array.getElem?_setIfInBounds_ne (Ne.symm hi)]
  have e1 : w.setCell ⟨b, off, none⟩ v = { w with heap := (w.setCell ⟨b, off, none⟩ v).heap } := rfl
  rw [e1, e]; rfl

theorem run_storeCells_blk {P : Program} {b t : Nat} : ∀ (vs : List Value) (i off : Nat) (w : World) (cs : List Value), w.heap[b]? = some (.cells cs.toArray t (0, 0)) →
    off + i + vs.length ≤ cs.length → vs.all Value.oneCell' = true →
    (storeCells ⟨b, off, none⟩ vs i).run P w = .ok () (setBlk w b (.cells (wrC cs (off + i) vs).toArray t (0, 0)))
  | [], i, off, w, cs, h, _, _ => by
    rw [wrC_nil, setBlk_self h]; rfl
  | v :: vs, i, off, w, cs, h, hl, h1 => by
    simp only [List.all_cons, Bool.and_eq_true] at h1
    have hcell : w.cell? ⟨b, off + i, none⟩ = cs[off + i]? := by rw [cell_of_row w b (off + i) cs.toArray t (0, 0) h]; simp
    have hlt : off + i < cs.length := by simp at hl; omega
    have hfz := frozen_of_row w b (off + i) cs.toArray t h
    have e : (store ((⟨b, off, none⟩ : Addr).add i) v).run P w = .ok () (setBlk w b (.cells (cs.set (off + i) v).toArray t (0, 0))) := by
      rw [Addr.add_mid, ← setCell_setBlk h]
      have hc : w.cell? ⟨b, off + i, none⟩ = some cs[off + i] := by rw [hcell]; simp [hlt]
      have h10 := h1.1
      cases v <;> first
        | (simp [Value.oneCell'] at h10; done)
        | simp [store, Sem.run, hc, hfz]
    unfold storeCells
    rw [Sem.run_bind, e]
    show (storeCells ⟨b, off, none⟩ vs (i + 1)).run P _ = _
    have hh : (setBlk w b (.cells (cs.set (off + i) v).toArray t (0, 0))).heap[b]? = some (.cells (cs.set (off + i) v).toArray t (0, 0)) := heap_setBlk h
    rw [run_storeCells_blk vs (i + 1) off _ (cs.set (off + i) v) hh (by simp at hl ⊢; omega) h1.2, setBlk_setBlk]
    rw [show off + (i + 1) = off + i + 1 from by omega, wrC_cons (by simp at hl; omega)]

/-! ### The pieces of a list -/
theorem Sats.get : ∀ {L : List HP} {F : List Nat} {w : World} {i : Nat} {H : HP}, Sats L F w → L[i]? = some H → ∃ ids, H.sat ids w ∧ ∀ b ∈ ids, b ∈ F
  | [], _, _, _, _, _, h => by simp at h
  | _ :: L, F, w, 0, H, ⟨j, G, hF, hj, _⟩, h => by
    simp only [List.getElem?_cons_zero, Option.some.injEq] at h
    subst h; subst hF
    exact ⟨j, hj, fun b hb => by simp [hb]⟩
  | _ :: L, F, w, i + 1, H, ⟨j, G, hF, _, hG⟩, h => by
    simp only [List.getElem?_cons_succ] at h
    obtain ⟨ids, h1, h2⟩ := Sats.get hG h
    subst hF
    exact ⟨ids, h1, fun b hb => by simp [h2 b hb]⟩

theorem St.atPt {X : Cx} {L : List HP} {w : World} (h : St X L w) {i b t : Nat} {cs : List Value} (hL : L[i]? = some (pt b cs t)) :
    w.heap[b]? = some (.cells cs.toArray t (0, 0)) ∧ ¬ X.Fr b := by
  obtain ⟨F, hs, _, hb⟩ := h.sat
  obtain ⟨ids, h1, h2⟩ := hs.get hL
  obtain ⟨rfl, h1⟩ := h1
  exact ⟨h1, (hb b (h2 b (by simp))).1⟩

/-- A piece that is a block is written anew. -/
theorem Sats.set : ∀ {L : List HP} {F : List Nat} {w w' : World} {i b t t' : Nat} {cs cs' : List Value}, Sats L F w → F.Nodup → L[i]? = some (pt b cs t) →
    w'.heap[b]? = some (.cells cs'.toArray t' (0, 0)) → (∀ c, c ≠ b → w'.heap[c]? = w.heap[c]?) → Sats (L.set i (pt b cs' t')) F w'
  | [], _, _, _, _, _, _, _, _, _, _, _, h, _, _ => by simp at h
  | _ :: L, F, w, w', 0, b, t, t', cs, cs', ⟨j, G, hF, hj, hG⟩, hn, h, h1, h2 => by
    simp only [List.getElem?_cons_zero, Option.some.injEq] at h
    subst h; subst hF
    obtain ⟨rfl, hj⟩ := hj
    refine ⟨[b], G, rfl, ⟨rfl, h1⟩, hG.loc fun c hc => h2 c fun he => ?_⟩
    subst he
    simp at hn
    exact hn.1 hc
  | H :: L, F, w, w', i + 1, b, t, t', cs, cs', ⟨j, G, hF, hj, hG⟩, hn, h, h1, h2 => by
    simp only [List.getElem?_cons_succ] at h
    subst hF
    obtain ⟨hnj, hnG, hd⟩ := List.nodup_append.1 hn
    obtain ⟨ids, hp, hm⟩ := hG.get h
    obtain ⟨rfl, _⟩ := hp
    have hb := hm b (by simp)
    exact ⟨j, G, rfl, H.loc j w w' (fun c hc => h2 c fun he => hd c hc b hb he) hj, Sats.set hG hnG h h1 h2⟩

theorem St.set {X : Cx} {L : List HP} {w : World} (h : St X L w) {i b t : Nat} {cs cs' : List Value} (hL : L[i]? = some (pt b cs t)) :
    St X (L.set i (pt b cs' t)) (setBlk w b (.cells cs'.toArray t (0, 0))) := by
  obtain ⟨h0, hf⟩ := h.atPt hL
  obtain ⟨F, hs, hn, hb⟩ := h.sat
  refine ⟨⟨F, hs.set hn hL (heap_setBlk h0) (fun c hc => heap_setBlk_ne (Ne.symm hc)), hn, fun c hc => ⟨(hb c hc).1, by rw [size_setBlk]; exact (hb c hc).2⟩⟩, ?_, h.low⟩
  exact h.keep.trans ⟨rfl, rfl, rfl, by rw [size_setBlk]; exact Nat.le_refl _, fun c hc => heap_setBlk_ne fun he => hf (he ▸ hc)⟩

theorem St.alloc {X : Cx} {L : List HP} {w : World} (h : St X L w) (cs : List Value) (t : Nat) : St X (pt w.heap.size cs t :: L) (w.alloc (.cells cs.toArray t)) :=
  ⟨h.sat.alloc h.lowW _ _ ⟨rfl, heap_alloc_new w _⟩, h.keep.trans (Keep.alloc h.lowW _), h.low⟩

/-! ### Reads -/
def Rd (agg : Bool) (n b off : Nat) (v : Value) (w : World) : Prop :=
  match agg with
  | true => ∃ cs : List Value, v = .agg cs.toArray ∧ cs.length = n ∧ w.rangeAt b off cs
  | false => w.cell? ⟨b, off, none⟩ = some v

theorem TIok.aggR {P : Program} {t : Nat} {ti : TI} (h : TIok P t ti) (w : World) : (isAgg t).run P w = .ok ti.und.agg w := by
  obtain ⟨d, hd, hr⟩ := run_und h w
  have hu := h.und
  unfold Go.isAgg
  rw [Sem.run_bind, hr]
  unfold undOf at hu
  rw [hd] at hu
  cases d <;> simp at hu <;> rw [← hu] <;> rfl

theorem TIok.info' {P : Program} {t : Nat} {ti : TI} (h : TIok P t ti) : ∃ i, P.info? t = some i ∧ i.size = ti.size ∧ i.bytes = ti.bytes ∧ i.zero = some ti.zero := by
  have := h.info
  cases hi : P.info? t with
  | none => simp [hi] at this
  | some i => exact ⟨i, rfl, by simpa [hi] using this⟩

theorem run_loadAt {P : Program} {t : Nat} {ti : TI} (h : TIok P t ti) {b off : Nat} {v : Value} {w : World} (hr : Rd ti.und.agg ti.size b off v w) :
    (Instr.loadAt t (.pointer (some ⟨b, off, none⟩))).run P w = .ok v w := by
  obtain ⟨i, hi, hs, _, _⟩ := h.info'
  have ha := h.aggR w
  unfold Instr.loadAt
  simp only [Instr.sureAddr, Sem.run_bind, Sem.run_pure, Result.andThen_ok, loadVar, ha]
  cases hg : ti.und.agg
  · rw [hg] at hr
    simp only [Rd] at hr
    simp [Go.load, Sem.run, hr]
  · rw [hg] at hr
    simp only [Rd] at hr
    obtain ⟨cs, rfl, hl, hc⟩ := hr
    have hload : (loadCells ⟨b, off, none⟩ cs.length).run P w = .ok cs.toArray w :=
      run_loadCells_list (P := P) w ⟨b, off, none⟩ cs (fun j v hv => by rw [Addr.add_mid]; exact hc j v hv)
    simp [Sem.run_bind, run_size hi, hs, ← hl, hload]

/-- What is read at an address, whatever the world, as long as the pieces are these. -/
def RdL (X : Cx) (L : List HP) (ti : TI) (b off : Nat) (v : Value) : Prop := ∀ w, St X L w → Rd ti.und.agg ti.size b off v w

theorem rd_cell {w : World} {b t : Nat} {cs : List Value} {fz : Nat × Nat} (h : w.heap[b]? = some (.cells cs.toArray t fz)) {off : Nat} {v : Value} {n : Nat} (hv : cs[off]? = some v) : Rd false n b off v w := by
  show w.cell? _ = _
  rw [cell_of_row w b off cs.toArray t fz h]; simpa using hv
theorem rd_agg {w : World} {b t : Nat} {cs : List Value} {fz : Nat × Nat} (h : w.heap[b]? = some (.cells cs.toArray t fz)) {off n : Nat} {ds : List Value} (hd : (cs.drop off).take n = ds) (hl : ds.length = n) : Rd true n b off (.agg ds.toArray) w := by
  refine ⟨ds, rfl, hl, fun j v hv => ?_⟩
  rw [cell_of_row w b (off + j) cs.toArray t fz h]
  have hj : j < ds.length := (List.getElem?_eq_some_iff.1 hv).1
  rw [← hd] at hv
  rw [List.getElem?_take, if_pos (by omega), List.getElem?_drop] at hv
  simpa using hv

theorem RdL.one {X : Cx} {L : List HP} {ti : TI} {b off t : Nat} {cs : List Value} {v : Value} (i : Nat) (hL : L[i]? = some (pt b cs t)) (hv : cs[off]? = some v) (ha : ti.und.agg = false := by rfl) : RdL X L ti b off v := fun w hw => by
  rw [ha]; exact rd_cell (hw.atPt hL).1 hv
theorem RdL.many {X : Cx} {L : List HP} {ti : TI} {b off t : Nat} {cs ds : List Value} (i : Nat) (hL : L[i]? = some (pt b cs t)) (hd : (cs.drop off).take ti.size = ds) (hl : ds.length = ti.size := by rfl) (ha : ti.und.agg = true := by rfl) : RdL X L ti b off (.agg ds.toArray) := fun w hw => by
  rw [ha]; exact rd_agg (hw.atPt hL).1 hd hl
/-- From what was there and stays. -/
theorem RdL.ro1 {X : Cx} {L : List HP} {ti : TI} {b off t : Nat} {cs : List Value} {fz : Nat × Nat} {v : Value} (hF : X.Fr b) (h0 : X.w0.heap[b]? = some (.cells cs.toArray t fz)) (hv : cs[off]? = some v) (ha : ti.und.agg = false := by rfl) : RdL X L ti b off v := fun w hw => by
  rw [ha]; exact rd_cell ((hw.keep.block b hF).trans h0) hv
theorem RdL.roN {X : Cx} {L : List HP} {ti : TI} {b off t : Nat} {cs ds : List Value} {fz : Nat × Nat} (hF : X.Fr b) (h0 : X.w0.heap[b]? = some (.cells cs.toArray t fz)) (hd : (cs.drop off).take ti.size = ds) (hl : ds.length = ti.size := by rfl) (ha : ti.und.agg = true := by rfl) : RdL X L ti b off (.agg ds.toArray) := fun w hw => by
  rw [ha]; exact rd_agg ((hw.keep.block b hF).trans h0) hd hl
/-- An address of which only its reading is known. -/
theorem RdL.rd {X : Cx} {L : List HP} {ti : TI} {b off : Nat} {v : Value} (hF : X.Fr b) (h0 : Rd ti.und.agg ti.size b off v X.w0) : RdL X L ti b off v := fun w hw => by
  have hb := hw.keep.block b hF
  cases hg : ti.und.agg
  · rw [hg] at h0
    show w.cell? _ = _
    unfold World.cell?; rw [hb]; exact h0
  · rw [hg] at h0
    obtain ⟨cs, h1, h2, h3⟩ := h0
    refine ⟨cs, h1, h2, fun j v hv => ?_⟩
    have := h3 j v hv
    unfold World.cell? at this ⊢; rw [hb]; exact this

section
variable {X : Cx} {ops : Array Oper} {G : GS} {l : List Oper} {e : Env} {L : List HP} {K : Env → List HP → Prop}
  {dst : Option Tmp} {ty : TypeId} {pos : String} {after : Array Edge} {guard : Option (Nat × Bool)}

theorem run_load {T : TypeId} {x : Operand} {ti : TI} {b off : Nat} {v : Value} (hx : ev e x = some (.pointer (some ⟨b, off, none⟩))) (hT : tyLook X.tab T = some ti)
    {a : Act} (ha : Agr X.n a e) {w : World} (hr : Rd ti.und.agg ti.size b off v w) (dst : Option Tmp) (ty : TypeId) (pos : String) (after : Array Edge) (guard : Option (Nat × Bool)) :
    (execOp a.eval ⟨dst, .load T x, ty, pos, after, guard⟩).run X.P w = .ok (.value v) w := by
  simp only [execOp, ha.ev hx]
  rw [Sem.run_bind, run_loadAt (X.ok.look hT) hr]; rfl

theorem OpT.load {T : TypeId} {x : Operand} {ti : TI} {b off : Nat} {v : Value} (hx : ev e x = some (.pointer (some ⟨b, off, none⟩))) (hT : tyLook X.tab T = some ti) (hr : RdL X L ti b off v) :
    OpT X (.load T x) e L (fun u L' => u = v ∧ L' = L) := fun _ w ha hw dst ty pos after guard =>
  .inl ⟨v, w, L, run_load hx hT ha (hr w hw) dst ty pos after guard, ⟨rfl, rfl⟩, hw⟩

theorem VO.load {T : TypeId} {x : Operand} {ti : TI} {b off : Nat} {v : Value} (hx : ev e x = some (.pointer (some ⟨b, off, none⟩))) (hT : tyLook X.tab T = some ti) (hr : RdL X L ti b off v)
    (hk : VO X ops G l (putE dst v e) L K)
    (hg : gOn ops G guard = some true := by rfl) (hd : dstOk X.n dst = true := by rfl) (hf : gFree G dst = true := by rfl) :
    VO X ops G (⟨dst, .load T x, ty, pos, after, guard⟩ :: l) e L K :=
  VO.op hg hd hf (OpT.load hx hT hr) (fun _ _ ⟨h1, h2⟩ => by subst h1; subst h2; exact hk)

/-- One cell out of piece i. -/
theorem VO.ld {T : TypeId} {x : Operand} {ti : TI} {b off t : Nat} {cs : List Value} {v : Value} (i : Nat) (hx : ev e x = some (.pointer (some ⟨b, off, none⟩))) (hL : L[i]? = some (pt b cs t)) (hT : tyLook X.tab T = some ti) (hv : cs[off]? = some v)
    (hk : VO X ops G l (putE dst v e) L K) (ha : ti.und.agg = false := by rfl)
    (hg : gOn ops G guard = some true := by rfl) (hd : dstOk X.n dst = true := by rfl) (hf : gFree G dst = true := by rfl) :
    VO X ops G (⟨dst, .load T x, ty, pos, after, guard⟩ :: l) e L K := VO.load hx hT (RdL.one i hL hv ha) hk hg hd hf
/-- A struct or an array out of piece i. -/
theorem VO.ldA {T : TypeId} {x : Operand} {ti : TI} {b off t : Nat} {cs : List Value} (i : Nat) (ds : List Value) (hx : ev e x = some (.pointer (some ⟨b, off, none⟩))) (hL : L[i]? = some (pt b cs t)) (hT : tyLook X.tab T = some ti) (hv : (cs.drop off).take ti.size = ds)
    (hk : VO X ops G l (putE dst (.agg ds.toArray) e) L K) (hl : ds.length = ti.size := by rfl) (ha : ti.und.agg = true := by rfl)
    (hg : gOn ops G guard = some true := by rfl) (hd : dstOk X.n dst = true := by rfl) (hf : gFree G dst = true := by rfl) :
    VO X ops G (⟨dst, .load T x, ty, pos, after, guard⟩ :: l) e L K := VO.load hx hT (RdL.many i hL hv hl ha) hk hg hd hf

/-! ### Writes -/
theorem run_storeAt {P : Program} {T : Nat} {ti : TI} (h : TIok P T ti) {w : World} {b off t : Nat} {cs vs : List Value} {v : Value} (hb : w.heap[b]? = some (.cells cs.toArray t (0, 0))) (hv : v.cells = vs.toArray) (hs : vs.length = ti.size) (hl : off + vs.length ≤ cs.length) (h1 : vs.all Value.oneCell' = true) :
    (Instr.storeAt T (.pointer (some ⟨b, off, none⟩)) v).run P w = .ok () (setBlk w b (.cells (wrC cs off vs).toArray t (0, 0))) := by
  obtain ⟨i, hi, hsz, _, _⟩ := h.info'
  have hr := run_storeCells_blk (P := P) vs 0 off w cs hb (by simpa using hl) h1
  simp only [Nat.add_zero] at hr
  have hcs : ¬ (v.cells.size ≠ i.size) := by rw [hv, hsz]; simp [hs]
  simp [Instr.storeAt, Instr.sureAddr, storeVar, Sem.run_bind, run_size hi, hv, hsz, hs, hr]

theorem OpT.store {T : TypeId} {x y : Operand} {ti : TI} {b off t : Nat} {cs vs : List Value} {v : Value} (i : Nat) (hx : ev e x = some (.pointer (some ⟨b, off, none⟩))) (hy : ev e y = some v) (hL : L[i]? = some (pt b cs t))
    (hT : tyLook X.tab T = some ti) (hv : v.cells = vs.toArray) (hs : vs.length = ti.size) (hl : off + vs.length ≤ cs.length) (h1 : vs.all Value.oneCell' = true) :
    OpT X (.store T x y) e L (fun u L' => u = undef ∧ L' = L.set i (pt b (wrC cs off vs) t)) := fun a w ha hw dst ty pos after guard => by
  refine .inr (.inl ⟨_, _, ?_, ⟨rfl, rfl⟩, hw.set hL⟩)
  simp only [execOp, ha.ev hx, ha.ev hy]
  rw [Sem.run_bind, run_storeAt (X.ok.look hT) (hw.atPt hL).1 hv hs hl h1]; rfl

theorem set_eq {L L' : List HP} {i : Nat} {H : HP} (h : L.set i H = L') : L.set i H = L' := h

/-- One cell into piece i: it then holds cs'. -/
theorem VO.st {T : TypeId} {x y : Operand} {ti : TI} {b off t : Nat} {cs cs' : List Value} {v : Value} {L' : List HP} (i : Nat) (hx : ev e x = some (.pointer (some ⟨b, off, none⟩))) (hy : ev e y = some v) (hL : L[i]? = some (pt b cs t))
    (hT : tyLook X.tab T = some ti) (hlt : off < cs.length) (hcs : cs.set off v = cs') (hL' : L.set i (pt b cs' t) = L')
    (hk : VO X ops G l (putE dst undef e) L' K) (h1 : v.oneCell' = true := by rfl) (hv : v.cells = #[v] := by rfl) (hsz : ti.size = 1 := by rfl)
    (hg : gOn ops G guard = some true := by rfl) (hd : dstOk X.n dst = true := by rfl) (hf : gFree G dst = true := by rfl) :
    VO X ops G (⟨dst, .store T x y, ty, pos, after, guard⟩ :: l) e L K := by
  refine VO.op hg hd hf (OpT.store (vs := [v]) i hx hy hL hT hv (by simp [hsz]) (by simp; omega) (by simp [h1])) (fun _ _ ⟨h3, h4⟩ => ?_)
  subst h3; subst h4
  rw [wrC_one cs off v hlt, hcs, hL']; exact hk

theorem VO.stA {T : TypeId} {x y : Operand} {ti : TI} {b off t : Nat} {cs cs' vs : List Value} {L' : List HP} (i : Nat) (hx : ev e x = some (.pointer (some ⟨b, off, none⟩))) (hy : ev e y = some (.agg vs.toArray)) (hL : L[i]? = some (pt b cs t))
    (hT : tyLook X.tab T = some ti) (hl : off + vs.length ≤ cs.length) (hcs : wrC cs off vs = cs') (hL' : L.set i (pt b cs' t) = L') (h1 : vs.all Value.oneCell' = true)
    (hk : VO X ops G l (putE dst undef e) L' K) (hs : vs.length = ti.size := by rfl)
    (hg : gOn ops G guard = some true := by rfl) (hd : dstOk X.n dst = true := by rfl) (hf : gFree G dst = true := by rfl) :
    VO X ops G (⟨dst, .store T x y, ty, pos, after, guard⟩ :: l) e L K := by
  refine VO.op hg hd hf (OpT.store (vs := vs) i hx hy hL hT rfl hs hl h1) (fun _ _ ⟨h3, h4⟩ => ?_)
  subst h3; subst h4
  rw [hcs, hL']; exact hk

/-! ### New variables -/
theorem run_zero {P : Program} {t : Nat} {ti : TI} (h : TIok P t ti) (w : World) : (zeroValue t).run P w = .ok ti.zero w := by
  obtain ⟨i, hi, _, _, hz⟩ := h.info'
  simp [zeroValue, typeInfo, hi, hz]

theorem OpT.alloc {T : TypeId} {ti : TI} (hT : tyLook X.tab T = some ti) : OpT X (.alloc T) e L (fun u L' => ∃ b, u = .pointer (some ⟨b, 0, none⟩) ∧ L' = pt b ti.zs T :: L) := fun a w _ hw dst ty pos after guard => by
  refine .inl ⟨.pointer (some ⟨w.heap.size, 0, none⟩), w.alloc (.cells ti.zs.toArray T), pt w.heap.size ti.zs T :: L, ?_, ⟨w.heap.size, rfl, rfl⟩, hw.alloc ti.zs T⟩
  have h := X.ok.look hT
  simp [execOp, Instr.alloc, run_zero h, newVar, newRow, newObj, Sem.run, h.zero]

theorem VO.alloc {T : TypeId} {ti : TI} (hT : tyLook X.tab T = some ti) (hk : ∀ b, VO X ops G l (putE dst (.pointer (some ⟨b, 0, none⟩)) e) (pt b ti.zs T :: L) K)
    (hg : gOn ops G guard = some true := by rfl) (hd : dstOk X.n dst = true := by rfl) (hf : gFree G dst = true := by rfl) :
    VO X ops G (⟨dst, .alloc T, ty, pos, after, guard⟩ :: l) e L K :=
  VO.op hg hd hf (OpT.alloc hT) (fun _ _ ⟨b, h1, h2⟩ => by subst h1; subst h2; exact hk b)

theorem OpT.box {T : TypeId} {x : Operand} {v : Value} {vs : List Value} (hx : ev e x = some v) (hv : v.cells = vs.toArray) : OpT X (.box T x) e L (fun u L' => ∃ b, u = .pointer (some ⟨b, 0, none⟩) ∧ L' = pt b vs T :: L) := fun a w ha hw dst ty pos after guard => by
  refine .inl ⟨.pointer (some ⟨w.heap.size, 0, none⟩), w.alloc (.cells vs.toArray T), pt w.heap.size vs T :: L, ?_, ⟨w.heap.size, rfl, rfl⟩, hw.alloc vs T⟩
  simp [execOp, Instr.box, ha.ev hx, newVar, newRow, newObj, Sem.run, hv]

theorem VO.boxA {T : TypeId} {x : Operand} {vs : List Value} (hx : ev e x = some (.agg vs.toArray)) (hk : ∀ b, VO X ops G l (putE dst (.pointer (some ⟨b, 0, none⟩)) e) (pt b vs T :: L) K)
    (hg : gOn ops G guard = some true := by rfl) (hd : dstOk X.n dst = true := by rfl) (hf : gFree G dst = true := by rfl) :
    VO X ops G (⟨dst, .box T x, ty, pos, after, guard⟩ :: l) e L K :=
  VO.op hg hd hf (OpT.box hx rfl) (fun _ _ ⟨b, h1, h2⟩ => by subst h1; subst h2; exact hk b)
theorem VO.box1 {T : TypeId} {x : Operand} {v : Value} (hx : ev e x = some v) (hk : ∀ b, VO X ops G l (putE dst (.pointer (some ⟨b, 0, none⟩)) e) (pt b [v] T :: L) K) (hv : v.cells = #[v] := by rfl)
    (hg : gOn ops G guard = some true := by rfl) (hd : dstOk X.n dst = true := by rfl) (hf : gFree G dst = true := by rfl) :
    VO X ops G (⟨dst, .box T x, ty, pos, after, guard⟩ :: l) e L K :=
  VO.op hg hd hf (OpT.box hx hv) (fun _ _ ⟨b, h1, h2⟩ => by subst h1; subst h2; exact hk b)
end
end Go.Proofs.YtbbnmgakmcppdaaGreat.Vg
