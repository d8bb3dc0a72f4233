/- The engine, part F: addresses of elements, composite values, slices that grow, pieces opened and shut, calls with pieces. No program is named; nothing is assumed. -/
import Derived.Test.YtbbnmgakmcppdaaGreatVgE
namespace Go.Proofs.YtbbnmgakmcppdaaGreat.Vg
open Go

/-! ### Light operations -/
theorem und_slice {P : Program} {t : Nat} {ti : TI} {el : Nat} (h : TIok P t ti) (hu : ti.und = .slice el) : P.underlying t = some (.slice el) := by
  have := h.und
  rw [hu] at this
  unfold undOf at this
  split at this <;> simp_all
theorem und_array {P : Program} {t : Nat} {ti : TI} {n el : Nat} (h : TIok P t ti) (hu : ti.und = .array n el) : P.underlying t = some (.array n el) := by
  have := h.und
  rw [hu] at this
  unfold undOf at this
  split at this <;> simp_all
theorem und_int {P : Program} {t : Nat} {ti : TI} {k : IntKind} (h : TIok P t ti) (hu : ti.und = .int k) : P.underlying t = some (.int k) := by
  have := h.und
  rw [hu] at this
  unfold undOf at this
  split at this <;> simp_all
theorem und_string {P : Program} {t : Nat} {ti : TI} (h : TIok P t ti) (hu : ti.und = .string) : P.underlying t = some .string := by
  have := h.und
  rw [hu] at this
  unfold undOf at this
  split at this <;> simp_all
theorem und_struct {P : Program} {t : Nat} {ti : TI} {fs : List (Nat × Nat)} (h : TIok P t ti) (hu : ti.und = .struct fs) :
    ∃ flds, P.underlying t = some (.struct flds) ∧ flds.toList.map (fun f => (f.offset, ((P.info? f.type).map (·.size)).getD 0)) = fs := by
  have := h.und
  rw [hu] at this
  unfold undOf at this
  split at this <;> simp at this
  rename_i fl hfl
  exact ⟨fl, hfl, by simpa using this⟩

theorem light_idx {X : Cx} {e : Env} {T : TypeId} {x y : Operand} {tt te : TI} {el b off len cap : Nat} {k : IntKind} {i : Int} (m : Nat) (hx : ev e x = some (.slice (some ⟨b, off, none⟩) len cap)) (hy : ev e y = some (.int k i))
    (hT : tyLook X.tab T = some tt) (hu : tt.und = .slice el) (hE : tyLook X.tab el = some te) (hm : i = m) (hlt : m < len) :
    Light X (.indexAddr T x y) e (.pointer (some ⟨b, off + m * te.size, none⟩)) := by
  intro a ha dst ty pos after guard w
  have h1 := und_slice (X.ok.look hT) hu
  obtain ⟨i2, hi2, hs2, _, _⟩ := (X.ok.look hE).info'
  subst hm
  simp [execOp, ha.ev hx, ha.ev hy, Instr.indexAt, asIntOf, run_underlying h1, hlt, run_size hi2, hs2, Addr.add_mid]

theorem light_idxA {X : Cx} {e : Env} {T : TypeId} {x y : Operand} {tt te : TI} {el b off len : Nat} {k : IntKind} {i : Int} (m : Nat) (hx : ev e x = some (.pointer (some ⟨b, off, none⟩))) (hy : ev e y = some (.int k i))
    (hT : tyLook X.tab T = some tt) (hu : tt.und = .array len el) (hE : tyLook X.tab el = some te) (hm : i = m) (hlt : m < len) :
    Light X (.indexAddr T x y) e (.pointer (some ⟨b, off + m * te.size, none⟩)) := by
  intro a ha dst ty pos after guard w
  have h1 := und_array (X.ok.look hT) hu
  obtain ⟨i2, hi2, hs2, _, _⟩ := (X.ok.look hE).info'
  subst hm
  simp [execOp, ha.ev hx, ha.ev hy, Instr.indexAt, asIntOf, run_underlying h1, hlt, run_size hi2, hs2, Addr.add_mid, Instr.sureAddr]

theorem light_rem {X : Cx} {e : Env} {xt yt : TypeId} {x y : Operand} {k : IntKind} {a b : Int} (hx : ev e x = some (.int k a)) (hy : ev e y = some (.int k b)) (ha0 : 0 ≤ a) (hb0 : 0 < b) :
    Light X (.binOp .rem xt x y yt) e (.int k (a % b)) := by
  intro a' ha dst ty pos after guard w
  have hb : b ≠ 0 := by omega
  have ht : a.tmod b = a % b := Int.tmod_eq_emod_of_nonneg ha0
  simp [execOp, ha.ev hx, ha.ev hy, eqGuard, binOp, Op.intDiv, hb, ht]

theorem light_quo {X : Cx} {e : Env} {xt yt : TypeId} {x y : Operand} {k : IntKind} {a b : Int} (z : Int) (hx : ev e x = some (.int k a)) (hy : ev e y = some (.int k b)) (ha0 : 0 ≤ a) (hb0 : 0 < b) (hz : k.wrap (a / b) = z) :
    Light X (.binOp .quo xt x y yt) e (.int k z) := by
  intro a' ha dst ty pos after guard w
  have hb : b ≠ 0 := by omega
  have ht : a.tdiv b = a / b := Int.tdiv_eq_ediv_of_nonneg ha0
  simp [execOp, ha.ev hx, ha.ev hy, eqGuard, binOp, Op.intDiv, hb, ht, hz]

/-- x[lo:hi] of a slice. -/
theorem light_slice {X : Cx} {e : Env} {T : TypeId} {x y z : Operand} {tt te : TI} {el b off len cap : Nat} {k k' : IntKind} {i j : Int} (lo hi : Nat) (hx : ev e x = some (.slice (some ⟨b, off, none⟩) len cap)) (hy : ev e y = some (.int k i)) (hz : ev e z = some (.int k' j))
    (hT : tyLook X.tab T = some tt) (hu : tt.und = .slice el) (hE : tyLook X.tab el = some te) (hlo : i = lo) (hhi : j = hi) (h1 : lo ≤ hi) (h2 : hi ≤ cap) (h3 : lo < cap) :
    Light X (.slice T x (some y) (some z) none) e (.slice (some ⟨b, off + lo * te.size, none⟩) (hi - lo) (cap - lo)) := by
  intro a ha dst ty pos after guard w
  have hd := und_slice (X.ok.look hT) hu
  obtain ⟨i2, hi2, hs2, _, _⟩ := (X.ok.look hE).info'
  subst hlo; subst hhi
  have hne : ¬ cap = lo := by omega
  simp [execOp, ha.ev hx, ha.ev hy, ha.ev hz, Instr.sliceAt, Instr.slice, Instr.sliceBounds, Instr.sliceBound, asIntOf, run_underlying hd, h1, h2, run_size hi2, hs2, Addr.add_mid, hne]

/-! ### Composite values -/
theorem fold_set : ∀ (vs : List Value) (k off : Nat) (cs : List Value), off + k + vs.length ≤ cs.length →
    (vs.zipIdx k).foldl (fun (c : Array Value) (x : Value × Nat) => c.setIfInBounds (off + x.2) x.1) cs.toArray = (wrC cs (off + k) vs).toArray
  | [], k, off, cs, _ => by rw [wrC_nil]; rfl
  | v :: vs, k, off, cs, h => by
    have h' : off + k + (vs.length + 1) ≤ cs.length := by simpa using h
    simp only [List.zipIdx_cons, List.foldl_cons, List.setIfInBounds_toArray]
    rw [fold_set vs (k + 1) off (cs.set (off + k) v) (by simp; omega), show off + (k + 1) = off + k + 1 from by omega, wrC_cons h']

def fillL (place : Nat → Option (Nat × Nat)) : List Value → List (Nat × Value) → Option (List Value)
  | zs, [] => some zs
  | zs, (i, v) :: r => match place i with
    | none => none
    | some (off, size) => bif Nat.beq v.cells.toList.length size && Nat.ble (off + size) zs.length then fillL place (wrC zs off v.cells.toList) r else none

theorem fill_fillL {place : Nat → Option (Nat × Nat)} : ∀ {parts : List (Nat × Value)} {zs cs : List Value}, fillL place zs parts = some cs → Instr.fill place zs.toArray parts = some cs.toArray
  | [], zs, cs, h => by simpa [fillL, Instr.fill] using h
  | (i, v) :: r, zs, cs, h => by
    simp only [fillL] at h
    simp only [Instr.fill]
    cases hp : place i with
    | none => simp [hp] at h
    | some p =>
      obtain ⟨off, size⟩ := p
      rw [hp] at h
      simp only at h ⊢
      cases hb : Nat.beq v.cells.toList.length size && Nat.ble (off + size) zs.length
      · rw [hb] at h; cases h
      · rw [hb] at h
        simp only [cond_true] at h
        simp only [Bool.and_eq_true] at hb
        have h1 : v.cells.size = size := by have := Nat.eq_of_beq_eq_true hb.1; simpa using this
        have h2 : off + size ≤ zs.length := Nat.le_of_ble_eq_true hb.2
        rw [if_neg (by simp [h1]; omega)]
        have := fold_set v.cells.toList 0 off zs (by simp; omega)
        have e : v.cells.zipIdx.foldl (fun cs (x : Value × Nat) => cs.setIfInBounds (off + x.2) x.1) zs.toArray = (wrC zs off v.cells.toList).toArray := by
          rw [← Array.foldl_toList, Array.toList_zipIdx]; simpa using this
        rw [e]
        exact fill_fillL h

def evP (e : Env) : List (Nat × Operand) → Option (List (Nat × Value))
  | [] => some []
  | (i, x) :: r => match ev e x, evP e r with
    | some v, some vs => some ((i, v) :: vs)
    | _, _ => none
theorem Agr.evP {n : Nat} {a : Act} {e : Env} (h : Agr n a e) : ∀ {xs : List (Nat × Operand)} {vs : List (Nat × Value)}, evP e xs = some vs → xs.map (fun p => (p.1, a.eval p.2)) = vs
  | [], vs, hx => by simpa [Vg.evP] using hx
  | (i, x) :: r, vs, hx => by
    simp only [Vg.evP] at hx
    split at hx
    · rename_i v us hv hus
      simp only [Option.some.injEq] at hx
      subst hx
      simp [h.ev hv, Agr.evP h hus]
    · cases hx

theorem run_mapM_places {P : Program} (w : World) : ∀ (fl : List Field), (∀ f ∈ fl, ∃ i, P.info? f.type = some i) →
    (fl.mapM fun f => (do pure (f.offset, ← sizeOf f.type) : Sem (Nat × Nat))).run P w = .ok (fl.map fun f => (f.offset, ((P.info? f.type).map (·.size)).getD 0)) w
  | [], _ => rfl
  | f :: fl, h => by
    obtain ⟨i, hi⟩ := h f (by simp)
    have ih := run_mapM_places (P := P) w fl (fun g hg => h g (by simp [hg]))
    simp only [List.mapM_cons, Sem.run_bind, run_size hi, Result.andThen_ok, Sem.run_pure, ih]
    simp [hi]

theorem light_build {X : Cx} {e : Env} {T : TypeId} {parts : Array (Nat × Operand)} {ti : TI} {fs : List (Nat × Nat)} {pv : List (Nat × Value)} (cells : List Value) (hT : tyLook X.tab T = some ti) (hu : ti.und = .struct fs)
    (hp : evP e parts.toList = some pv) (hfill : fillL (fun i => fs[i]?) ti.zs pv = some cells) (hnz : fs.all (fun p => !Nat.beq p.2 0) = true) : Light X (.build T parts) e (.agg cells.toArray) := by
  intro a ha dst ty pos after guard w
  have hok := X.ok.look hT
  obtain ⟨flds, hund, hfl⟩ := und_struct hok hu
  have hparts : parts.map (fun p => (p.1, a.eval p.2)) = pv.toArray := by
    apply Array.toList_inj.1
    simpa using ha.evP hp
  have hinfo : ∀ f ∈ flds.toList, ∃ i, X.P.info? f.type = some i := fun f hf => by
    cases hq : X.P.info? f.type with
    | some i => exact ⟨i, rfl⟩
    | none =>
      have hm : (f.offset, ((X.P.info? f.type).map (·.size)).getD 0) ∈ fs := by
        rw [← hfl]; exact List.mem_map.2 ⟨f, hf, rfl⟩
      have := List.all_eq_true.1 hnz _ hm
      simp [hq] at this
  have hplaces : (flds.mapM fun f => (do pure (f.offset, ← sizeOf f.type) : Sem (Nat × Nat))).run X.P w = .ok fs.toArray w := by
    have h1 := run_mapM_places (P := X.P) w flds.toList hinfo
    rw [hfl] at h1
    simp only [bind_pure_comp] at h1
    rw [Array.mapM_eq_mapM_toList]
    simp [h1]
  have hf := fill_fillL hfill
  have hfn : (fun i : Nat => fs.toArray[i]?) = (fun i : Nat => fs[i]?) := by funext i; simp
  have hb : (Instr.build T pv.toArray).run X.P w = .ok (.agg cells.toArray) w := by
    unfold Instr.build
    simp only [Sem.run_bind, run_zero hok, Result.andThen_ok, run_underlying hund, hplaces, hok.zero]
    simp only [hfn, hf, Sem.run_pure]
  simp only [execOp]
  rw [Sem.run_bind]
  have : (parts.map fun x => match x with | (i, x) => (i, a.eval x)) = pv.toArray := hparts
  rw [this, hb]; rfl

/-! ### Slices that this code made and may grow -/
def slH (el esz : Nat) (a : Option Addr) (n cap : Nat) (cs : List Value) : HP :=
  ⟨fun ids w => cs.length = n * esz ∧ ((a = none ∧ n = 0 ∧ cap = 0 ∧ ids = []) ∨
      ∃ b rest, a = some ⟨b, 0, none⟩ ∧ ids = [b] ∧ n ≤ cap ∧ (cs ++ rest).length = cap * esz ∧ w.heap[b]? = some (.cells (cs ++ rest).toArray el (0, 0))),
    fun ids w w' hb h => ⟨h.1, h.2.imp id fun ⟨b, rest, h1, h2, h3, h4, h5⟩ => ⟨b, rest, h1, h2, h3, h4, (hb b (by simp [h2])).trans h5⟩⟩⟩

/-- What an append's second operand reads as: m elements of esz cells. -/
def RdRow (X : Cx) (L : List HP) (v : Value) (esz m : Nat) (news : List Value) : Prop :=
  news.length = m * esz ∧ ((∃ a c, v = .slice a m c ∧ m = 0) ∨ ∃ b off c, v = .slice (some ⟨b, off, none⟩) m c ∧ ∀ w, St X L w → w.rangeAt b off news)

theorem RdRow.run {X : Cx} {L : List HP} {v : Value} {esz m : Nat} {news : List Value} (h : RdRow X L v esz m news) {w : World} (hw : St X L w) : (Builtin.firstCells esz m v).run X.P w = .ok news.toArray w := by
  obtain ⟨hl, ⟨a, c, rfl, rfl⟩ | ⟨b, off, c, rfl, hr⟩⟩ := h
  · simp at hl; subst hl
    cases a with
    | none => rfl
    | some a => simp [Builtin.firstCells, loadCells, loadCellsFrom]
  · have := run_loadCells_list (P := X.P) w ⟨b, off, none⟩ news (fun j v hv => by rw [Addr.add_mid]; exact hr w hw j v hv)
    rw [hl] at this
    exact this

theorem rangeAt_blk {w : World} {b t : Nat} {cs : List Value} {fz : Nat × Nat} (h : w.heap[b]? = some (.cells cs.toArray t fz)) {off n : Nat} {ds : List Value} (hd : (cs.drop off).take n = ds) : w.rangeAt b off ds := fun j v hv => by
  rw [cell_of_row w b (off + j) cs.toArray t fz h]
  rw [← hd, List.getElem?_take] at hv
  split at hv
  · rw [List.getElem?_drop] at hv; simpa using hv
  · cases hv

theorem perm_eraseIdx : ∀ {L : List HP} {i : Nat} {H : HP}, L[i]? = some H → L.Perm (H :: L.eraseIdx i)
  | [], _, _, h => by simp at h
  | x :: L, 0, H, h => by
    simp only [List.getElem?_cons_zero, Option.some.injEq] at h
    subst h; exact .refl _
  | x :: L, i + 1, H, h => by
    simp only [List.getElem?_cons_succ] at h
    exact ((perm_eraseIdx h).cons x).trans (.swap _ _ _)

theorem size_zeroCells' (zs : Array Value) (n : Nat) : (Builtin.zeroCells zs n).size = n * zs.size := by simp [Builtin.zeroCells]

theorem run_append0 {P : Program} {w : World} {t el : Nat} {i : TypeInfo} (hund : P.underlying t = some (.slice el)) (hi : P.info? el = some i) (a d : Option Addr) (n cap c : Nat) (hnc : n ≤ cap) (r : Nat) :
    (Builtin.append_ #[t, t] r #[.slice a n cap, .slice d 0 c]).run P w = .ok (.slice a n cap) w := by
  cases a <;> cases d <;> simp [Builtin.append_, run_underlying hund, run_size hi, Builtin.lenOf, Builtin.firstCells, hnc, storeCells, loadCells, loadCellsFrom]

/-- append(s, x...), s made by this code, x of whatever source. -/
theorem OpT.append {X : Cx} {e : Env} {L : List HP} {t el esz n cap m : Nat} {tt te : TI} {x y : Operand} {a : Option Addr} {cs news : List Value} {v : Value} (i : Nat)
    (hx : ev e x = some (.slice a n cap)) (hy : ev e y = some v) (hL : L[i]? = some (slH el esz a n cap cs)) (hT : tyLook X.tab t = some tt) (hu : tt.und = .slice el) (hE : tyLook X.tab el = some te) (hesz : te.size = esz)
    (hr : RdRow X L v esz m news) (h1 : news.all Value.oneCell' = true) (hb : (n + m) * te.bytes ≤ 140737488355328) (h63 : n + m ≤ 9223372036854775807) :
    OpT X (.call ⟨.builtin .append, #[x, y], #[t, t]⟩) e L (fun u L' => ∃ a' cap', u = .slice a' (n + m) cap' ∧ n + m ≤ cap' ∧ L' = slH el esz a' (n + m) cap' (cs ++ news) :: L.eraseIdx i) := by
  intro ac w ha hw dst ty pos after guard
  have hund := und_slice (X.ok.look hT) hu
  have hok := X.ok.look hE
  obtain ⟨ti, hi, hsz, hbt, hz⟩ := hok.info'
  have hexec : ∀ u w', (Builtin.append_ #[t, t] ty #[.slice a n cap, v]).run X.P w = .ok u w' →
      (execOp ac.eval ⟨dst, .call ⟨.builtin .append, #[x, y], #[t, t]⟩, ty, pos, after, guard⟩).run X.P w = .ok (.value u) w' := fun u w' h => by
    simp [execOp, resolve, invoke, builtin, ha.ev hx, ha.ev hy, h]
  obtain ⟨F, ⟨ids, K, hF, hid, hK⟩, hnd, hbd⟩ := hw.sat.perm (perm_eraseIdx hL)
  subst hF
  obtain ⟨hnl, hrd⟩ := hr
  obtain ⟨hcl, hcase⟩ := hid
  have hlen : (cs ++ news).length = (n + m) * esz := by rw [List.length_append, hcl, hnl, Nat.add_mul]
  obtain ⟨hn1, hn2, hdis⟩ := List.nodup_append.1 hnd
  -- the piece as it is, moved to the front
  have stay : ∀ ids', HP.sat (slH el esz a n cap cs) ids' w → ids' = ids → m = 0 → news = [] → St X (slH el esz a (n + m) cap (cs ++ news) :: L.eraseIdx i) w := by
    rintro ids' hs rfl rfl rfl
    simp only [Nat.add_zero, List.append_nil]
    exact ⟨⟨_, ⟨ids', K, rfl, hs, hK⟩, hnd, hbd⟩, hw.keep, hw.low⟩
  have hncap : n ≤ cap := by rcases hcase with ⟨_, rfl, rfl, _⟩ | ⟨b, rest, _, _, h, _⟩ <;> omega
  rcases hrd with ⟨d, c, rfl, rfl⟩ | ⟨b, off, c, rfl, hrg⟩
  · have hn0 : news = [] := List.eq_nil_of_length_eq_zero (by simpa using hnl)
    refine .inl ⟨_, w, _, hexec _ _ (run_append0 hund hi a d n cap c hncap ty), ⟨a, cap, rfl, by omega, rfl⟩, stay ids ⟨hcl, hcase⟩ rfl rfl hn0⟩
  · have hnews : ∀ j u, news[j]? = some u → w.cell? ((⟨b, off, none⟩ : Addr).add j) = some u := fun j u hj => by rw [Addr.add_mid]; exact hrg w hw j u hj
    have h1' : ∀ u ∈ news, u.oneCell' = true := List.all_eq_true.1 h1
    have hnl' : news.length = m * ti.size := by rw [hsz, hesz]; exact hnl
    -- a new block
    have grown : ∀ old : Nat, old < n + m → St X (slH el esz (some ⟨w.heap.size, 0, none⟩) (n + m) (grownCap w (n + m) old el) (cs ++ news) :: L.eraseIdx i)
        (w.drew.alloc (.cells (cs.toArray ++ news.toArray ++ Builtin.zeroCells te.zero.cells (grownCap w (n + m) old el - (n + m))) el)) := by
      intro old ho
      have hge := grownCap_ge w (n + m) old el
      have hw2 : St X (L.eraseIdx i) w.drew := ⟨⟨K, Sats.loc (w := w) (w' := w.drew) (fun _ _ => rfl) hK, hn2, fun b hb => hbd b (by simp [hb])⟩, hw.keep.trans (Keep.drew _ _), hw.low⟩
      refine ⟨hw2.sat.alloc hw2.lowW _ _ ?_, hw2.keep.trans (Keep.alloc hw2.lowW _), hw.low⟩
      refine ⟨hlen, .inr ⟨w.heap.size, (Builtin.zeroCells te.zero.cells (grownCap w (n + m) old el - (n + m))).toList, rfl, rfl, hge, ?_, ?_⟩⟩
      · have hzl : te.zero.cells.size = esz := by rw [hok.zero]; simp [hok.len, hesz]
        rw [List.length_append, hlen, Array.length_toList, size_zeroCells', hzl, ← Nat.add_mul]
        congr 1; omega
      · have := heap_alloc_new w.drew (.cells (cs.toArray ++ news.toArray ++ Builtin.zeroCells te.zero.cells (grownCap w (n + m) old el - (n + m))) el)
        rw [show (cs ++ news ++ (Builtin.zeroCells te.zero.cells (grownCap w (n + m) old el - (n + m))).toList).toArray = cs.toArray ++ news.toArray ++ Builtin.zeroCells te.zero.cells (grownCap w (n + m) old el - (n + m)) from by
          apply Array.toList_inj.1; simp]
        exact this
    rcases hcase with ⟨rfl, rfl, rfl, rfl⟩ | ⟨g, rest, rfl, rfl, hnc, hcr, hh⟩
    · have hcs0 : cs = [] := List.eq_nil_of_length_eq_zero (by simpa using hcl)
      subst hcs0
      by_cases hm : m = 0
      · subst hm
        have hn0 : news = [] := List.eq_nil_of_length_eq_zero (by simpa using hnl)
        refine .inl ⟨.slice none (0 + 0) 0, w, _, hexec _ _ ?_, ⟨none, 0, rfl, by omega, rfl⟩, stay [] ⟨hcl, .inl ⟨rfl, rfl, rfl, rfl⟩⟩ rfl rfl hn0⟩
        simp [Builtin.append_, run_underlying hund, run_size hi, Builtin.lenOf, Builtin.firstCells, loadCells, loadCellsFrom]
      · have hrun := run_append_nil (P := X.P) w t ty el ti te.zero hund hi hz ⟨b, off, none⟩ m c news hnl' hnews (by omega) (by omega) (by rw [hbt]; simp only [Nat.zero_add] at hb; omega)
        have hg := grown 0 (by omega)
        simp only [Nat.zero_add, List.nil_append, Array.empty_append] at hg ⊢
        exact .inl ⟨_, _, _, hexec _ _ hrun, ⟨_, _, rfl, grownCap_ge w m 0 el, rfl⟩, hg⟩
    · by_cases hroom : n + m ≤ cap
      · have hmul : (n + m) * esz ≤ cap * esz := Nat.mul_le_mul_right _ hroom
        have hfit : n * ti.size + news.length ≤ (cs ++ rest).toArray.size := by
          rw [hsz, hesz, hnl]; simp only [List.size_toArray]; rw [hcr, ← Nat.add_mul]; exact hmul
        have hrun := run_append_room (P := X.P) w t ty el ti hund hi g n cap _ hh ⟨b, off, none⟩ m c news hnl' hnews h1' hroom hfit
        have hnew : (cs ++ rest).toArray.toList.take (n * ti.size) ++ news ++ (cs ++ rest).toArray.toList.drop (n * ti.size + news.length) = (cs ++ news) ++ rest.drop news.length := by
          simp only [hsz, hesz]
          rw [← hcl]
          simp [List.drop_append]
        rw [hnew] at hrun
        refine .inl ⟨_, _, _, hexec _ _ hrun, ⟨some ⟨g, 0, none⟩, cap, rfl, hroom, rfl⟩, ?_⟩
        have hgF : ¬ X.Fr g := (hbd g (by simp)).1
        have hne : ∀ x ∈ K, x ≠ g := fun x hx he => hdis g (by simp) x hx he.symm
        refine ⟨⟨[g] ++ K, ⟨[g], K, rfl, ⟨hlen, .inr ⟨g, rest.drop news.length, rfl, rfl, hroom, ?_, setRow_heap w g _ _ el _ hh⟩⟩, hK.loc fun x hx => setRow_other w g x _ (hne x hx)⟩, hnd, fun x hx => ⟨(hbd x hx).1, by rw [size_setRow]; exact (hbd x hx).2⟩⟩, ?_, hw.low⟩
        · rw [List.length_append, hlen, List.length_drop]
          rw [List.length_append, hcl] at hcr
          rw [hnl, Nat.add_mul]; rw [Nat.add_mul] at hmul; omega
        · exact hw.keep.trans ⟨rfl, rfl, rfl, by rw [size_setRow]; exact Nat.le_refl _, fun x hx => setRow_other w g x _ (fun he => hgF (he ▸ hx))⟩
      · have holds : ∀ j u, cs[j]? = some u → w.cell? ((⟨g, 0, none⟩ : Addr).add j) = some u := fun j u hj => by
          rw [Addr.add_mid, cell_of_row w g (0 + j) _ el (0, 0) hh]
          have hlt : j < cs.length := (List.getElem?_eq_some_iff.1 hj).1
          simp [List.getElem?_append, hlt]
          exact (List.getElem?_eq_some_iff.1 hj).2
        have hrun := run_append_grow (P := X.P) w t ty el ti te.zero hund hi hz ⟨g, 0, none⟩ n cap cs (by rw [hsz, hesz]; exact hcl) holds ⟨b, off, none⟩ m c news hnl' hnews (by omega) (by omega) (growslice_fits (by omega) (by rw [hbt]; exact hb))
        exact .inl ⟨_, _, _, hexec _ _ hrun, ⟨_, _, rfl, grownCap_ge w (n + m) cap el, rfl⟩, grown cap (by omega)⟩

end Go.Proofs.YtbbnmgakmcppdaaGreat.Vg
