/- The engine, part U: maps, as lists of keys with values; comparing structs. No program is named; nothing is assumed. -/
import Derived.Test.YtbbnmgakmcppdaaGreatVgR
import Derived.MapKept
import Derived.Laws.StructEq
namespace Go.Proofs.YtbbnmgakmcppdaaGreat.Vg
open Go Go.MapKept
set_option linter.unusedVariables false
set_option linter.unusedSectionVars false
set_option linter.unusedSimpArgs false

/-! ### Lists of keys with values -/
section
variable {κ α : Type} [DecidableEq κ]
def lookI : List (κ × α) → κ → Nat → Option (Nat × α)
  | [], _, _ => none
  | (k, v) :: r, a, i => if k = a then some (i, v) else lookI r a (i + 1)
def mGet : List (κ × α) → κ → Option α
  | [], _ => none
  | (k, v) :: r, a => if k = a then some v else mGet r a
def mPut : List (κ × α) → κ → α → List (κ × α)
  | [], a, u => [(a, u)]
  | (k, v) :: r, a, u => if k = a then (k, u) :: r else (k, v) :: mPut r a u
def mDel : List (κ × α) → κ → List (κ × α)
  | [], _ => []
  | (k, v) :: r, a => if k = a then r else (k, v) :: mDel r a

theorem lookI_none : ∀ {l : List (κ × α)} {a : κ} {i : Nat}, lookI l a i = none → mGet l a = none ∧ (∀ x ∈ l, x.1 ≠ a) ∧ (∀ u, mPut l a u = l ++ [(a, u)]) ∧ mDel l a = l
  | [], _, _, _ => ⟨rfl, (fun _ h => by cases h), fun _ => rfl, rfl⟩
  | (k, v) :: r, a, i, h => by
    simp only [lookI] at h
    split at h
    · cases h
    · rename_i hk
      obtain ⟨h1, h2, h3, h4⟩ := lookI_none h
      refine ⟨by simp [mGet, hk, h1], fun x hx => ?_, fun u => by simp [mPut, hk, h3], by simp [mDel, hk, h4]⟩
      rcases List.mem_cons.1 hx with rfl | hx
      · exact hk
      · exact h2 x hx
theorem lookI_some : ∀ {l : List (κ × α)} {a : κ} {i j : Nat} {v : α}, lookI l a i = some (j, v) → i ≤ j ∧ l[j - i]? = some (a, v) ∧ mGet l a = some v ∧ (∀ u, mPut l a u = l.set (j - i) (a, u)) ∧ mDel l a = l.eraseIdx (j - i)
  | [], _, _, _, _, h => by cases h
  | (k, u) :: r, a, i, j, v, h => by
    simp only [lookI] at h
    split at h
    · rename_i hk
      obtain ⟨rfl, rfl⟩ := Prod.mk.inj (Option.some.inj h)
      subst hk
      refine ⟨Nat.le_refl _, by simp, by simp [mGet], fun u => by simp [mPut], by simp [mDel]⟩
    · rename_i hk
      obtain ⟨h1, h2, h3, h4, h5⟩ := lookI_some h
      have e : j - i = (j - (i + 1)) + 1 := by omega
      rw [e]
      exact ⟨by omega, by simpa using h2, by simp [mGet, hk, h3], fun u => by simp [mPut, hk, h4], by simp [mDel, hk, h5]⟩
theorem mGet_put (l : List (κ × α)) (a b : κ) (u : α) : mGet (mPut l a u) b = if a = b then some u else mGet l b := by
  induction l with
  | nil => simp [mPut, mGet]
  | cons x r ih =>
    obtain ⟨k, v⟩ := x
    simp only [mPut]
    by_cases hk : k = a
    · subst hk
      by_cases hb : k = b
      · simp [mGet, hb]
      · simp [mGet, hb]
    · rw [if_neg hk]
      simp only [mGet]
      rw [ih]
      by_cases hb : k = b
      · subst hb; simp [Ne.symm hk]
      · simp [hb]
theorem mGet_none_iff (l : List (κ × α)) (a : κ) : mGet l a = none ↔ ∀ x ∈ l, x.1 ≠ a := by
  induction l with
  | nil => simp [mGet]
  | cons x r ih =>
    obtain ⟨k, v⟩ := x
    simp only [mGet]
    by_cases hk : k = a
    · simp [hk]
    · simp [hk, ih]
theorem mGet_mem {l : List (κ × α)} {a : κ} {v : α} (h : mGet l a = some v) : (a, v) ∈ l := by
  induction l with
  | nil => cases h
  | cons x r ih =>
    obtain ⟨k, u⟩ := x
    simp only [mGet] at h
    by_cases hk : k = a
    · rw [if_pos hk] at h; cases h; simp [hk]
    · rw [if_neg hk] at h; simp [ih h]
theorem mGet_of_mem {l : List (κ × α)} {a : κ} {v : α} (hn : (l.map Prod.fst).Nodup) (h : (a, v) ∈ l) : mGet l a = some v := by
  induction l with
  | nil => cases h
  | cons x r ih =>
    obtain ⟨k, u⟩ := x
    simp only [List.map_cons, List.nodup_cons] at hn
    simp only [mGet]
    rcases List.mem_cons.1 h with h | h
    · cases h; simp
    · have : k ≠ a := fun e => hn.1 (e ▸ List.mem_map.2 ⟨(a, v), h, rfl⟩)
      rw [if_neg this]; exact ih hn.2 h
theorem mPut_keys (l : List (κ × α)) (a : κ) (u : α) : (mPut l a u).map Prod.fst = if a ∈ l.map Prod.fst then l.map Prod.fst else l.map Prod.fst ++ [a] := by
  induction l with
  | nil => simp [mPut]
  | cons x r ih =>
    obtain ⟨k, v⟩ := x
    simp only [mPut]
    by_cases hk : k = a
    · simp [hk]
    · rw [if_neg hk, List.map_cons, ih]
      by_cases hm : a ∈ r.map Prod.fst
      · rw [if_pos hm, if_pos (by simp [hm])]; rfl
      · rw [if_neg hm, if_neg (by simp only [List.map_cons, List.mem_cons, not_or]; exact ⟨Ne.symm hk, hm⟩)]; rfl
theorem mPut_nodup {l : List (κ × α)} (h : (l.map Prod.fst).Nodup) (a : κ) (u : α) : ((mPut l a u).map Prod.fst).Nodup := by
  rw [mPut_keys]
  split
  · exact h
  · rename_i hm
    exact List.nodup_append.2 ⟨h, by simp, fun x hx y hy e => by simp at hy; subst hy; subst e; exact hm hx⟩
theorem mDel_sub (l : List (κ × α)) (a : κ) : (mDel l a).Sublist l := by
  induction l with
  | nil => exact List.Sublist.refl _
  | cons x r ih =>
    obtain ⟨k, v⟩ := x
    simp only [mDel]
    split
    · exact List.sublist_cons_self _ _
    · exact ih.cons_cons _
theorem mDel_nodup {l : List (κ × α)} (h : (l.map Prod.fst).Nodup) (a : κ) : ((mDel l a).map Prod.fst).Nodup := ((mDel_sub l a).map _).nodup h
theorem mGet_del {l : List (κ × α)} (h : (l.map Prod.fst).Nodup) (a b : κ) : mGet (mDel l a) b = if a = b then none else mGet l b := by
  induction l with
  | nil => simp [mDel, mGet]
  | cons x r ih =>
    obtain ⟨k, v⟩ := x
    simp only [List.map_cons, List.nodup_cons] at h
    simp only [mDel]
    by_cases hk : k = a
    · subst hk
      rw [if_pos rfl]
      by_cases hb : k = b
      · subst hb
        rw [if_pos rfl, mGet_none_iff]
        exact fun x hx e => h.1 (e ▸ List.mem_map.2 ⟨x, hx, rfl⟩)
      · simp [mGet, hb]
    · rw [if_neg hk]
      simp only [mGet]
      rw [ih h.2]
      by_cases hb : k = b
      · subst hb; simp [Ne.symm hk]
      · simp [hb]
theorem mPut_len (l : List (κ × α)) (a : κ) (u : α) : (mPut l a u).length ≤ l.length + 1 := by
  induction l with
  | nil => simp [mPut]
  | cons x r ih =>
    obtain ⟨k, v⟩ := x
    simp only [mPut]
    split
    · simp
    · simp only [List.length_cons]; omega
end

/-! ### Keys -/
structure KeyOk (P : Program) (kt : TypeId) {κ : Type} [DecidableEq κ] (c : κ → Value) : Prop where
  inj : ∀ a b, c a = c b → a = b
  check : ∀ (e : Bool) (a : κ) (w : World), (Instr.checkKey e 10000 kt (c a)).run P w = .ok () w
  find : ∀ {α : Type} (d : α → Value) (a : κ) (xs : List (κ × α)) (es : List MapEntry), es.map (fun e => (e.key, e.val)) = xs.map (fun x => (c x.1, d x.2)) → ∀ w : World,
    (Instr.findKey kt (c a) es).run P w = .ok ((lookI xs a 0).map fun p => (p.1, d p.2)) w
  bits : ∀ a, Instr.sameBits 10000 (c a) (c a) = true

def strV (s : ByteArray) : Value := .string s
theorem findNow_str {α : Type} (d : α → Value) (a : ByteArray) : ∀ (xs : List (ByteArray × α)) (es : List MapEntry) (i : Nat), es.map (fun e => (e.key, e.val)) = xs.map (fun x => (strV x.1, d x.2)) →
    Instr.findNow .string (strV a) es i = some ((lookI xs a i).map fun p => (p.1, d p.2))
  | [], [], _, _ => rfl
  | [], _ :: _, _, h => by cases h
  | _ :: _, [], _, h => by cases h
  | (k, v) :: xs, e :: es, i, h => by
    simp only [List.map_cons, List.cons.injEq, Prod.mk.injEq] at h
    obtain ⟨⟨h1, h2⟩, h3⟩ := h
    unfold Instr.findNow
    rw [h1]
    simp only [strV, Instr.sameNow, lookI]
    by_cases hk : k = a
    · subst hk
      rw [(bytes_beq k k).2 rfl, if_pos rfl, h2]; rfl
    · have : (a == k) = false := by
        cases hb : a == k
        · rfl
        · exact absurd ((bytes_beq a k).1 hb).symm hk
      rw [this, if_neg hk]
      exact findNow_str d a xs es (i + 1) h3
theorem KeyOk.string {P : Program} {kt : TypeId} (h : P.underlying kt = some .string) : KeyOk P kt strV where
  inj := fun a b h => by simpa [strV] using h
  check := fun e a w => by
    show (Instr.checkKey e (9999 + 1) kt (strV a)).run P w = _
    exact run_checkKey h (by trivial) e 9999
  find := fun d a xs es hes w => run_findKey h (findNow_str d a xs es 0 hes)
  bits := fun a => by simp [strV, Instr.sameBits, bytes_beq]

/-- Keys that are structs: from how two of them compare. -/
theorem findAsking_of {P : Program} {kt : TypeId} {κ α : Type} [DecidableEq κ] {c : κ → Value} (heq : ∀ (a b : κ) (w : World), (Op.equal kt (c a) (c b)).run P w = .ok (decide (a = b)) w) (d : α → Value) (a : κ) :
    ∀ (xs : List (κ × α)) (es : List MapEntry) (i : Nat), es.map (fun e => (e.key, e.val)) = xs.map (fun x => (c x.1, d x.2)) → ∀ w : World, (Instr.findAsking kt (c a) es i).run P w = .ok ((lookI xs a i).map fun p => (p.1, d p.2)) w
  | [], [], _, _, _ => rfl
  | [], _ :: _, _, h, _ => by cases h
  | _ :: _, [], _, h, _ => by cases h
  | (k, v) :: xs, e :: es, i, h, w => by
    simp only [List.map_cons, List.cons.injEq, Prod.mk.injEq] at h
    obtain ⟨⟨h1, h2⟩, h3⟩ := h
    unfold Instr.findAsking
    rw [Sem.run_bind, h1, heq a k w, Result.andThen_ok]
    simp only [lookI]
    by_cases hk : k = a
    · subst hk
      simp only [decide_true, if_true, h2]; rfl
    · rw [if_neg hk, decide_eq_false (Ne.symm hk)]
      simp only [Bool.false_eq_true, if_false]
      exact findAsking_of heq d a xs es (i + 1) h3 w

/-! ### A map in the heap -/
def MapAt {κ α : Type} (c : κ → Value) (d : α → Value) (b : Nat) (xs : List (κ × α)) (w : World) : Prop :=
  ∃ (es : Array MapEntry) (clock : Nat), w.heap[b]? = some (.map es clock) ∧ es.toList.map (fun e => (e.key, e.val)) = xs.map (fun x => (c x.1, d x.2)) ∧ Stamped es clock
theorem MapAt.loc {κ α : Type} {c : κ → Value} {d : α → Value} {b : Nat} {xs : List (κ × α)} {w w' : World} (h : MapAt c d b xs w) (hb : w'.heap[b]? = w.heap[b]?) : MapAt c d b xs w' := by
  obtain ⟨es, k, h1, h2⟩ := h
  exact ⟨es, k, hb.trans h1, h2⟩
def mapH {κ α : Type} (c : κ → Value) (d : α → Value) (b : Nat) (xs : List (κ × α)) : HP :=
  ⟨fun ids w => ids = [b] ∧ MapAt c d b xs w, fun _ _ _ h hs => ⟨hs.1, hs.2.loc (h b (by simp [hs.1]))⟩⟩
structure MapBlk {κ α : Type} (Fr : Nat → Prop) (w : World) (c : κ → Value) (d : α → Value) (b : Nat) (xs : List (κ × α)) : Prop where
  fr : Fr b
  at_ : MapAt c d b xs w
theorem MapAt.nodup {κ α : Type} [DecidableEq κ] {c : κ → Value} {d : α → Value} {b : Nat} {xs : List (κ × α)} {w : World} (h : MapAt c d b xs w) : (xs.map Prod.fst).Nodup := by
  obtain ⟨es, k, _, h2, _, _, h3⟩ := h
  have e1 : es.toList.map (·.key) = (xs.map Prod.fst).map c := by
    have := congrArg (List.map Prod.fst) h2
    simpa [List.map_map, Function.comp_def] using this
  rw [e1] at h3
  exact List.Pairwise.of_map c (fun a b h => fun e => h (e ▸ rfl)) h3

section
variable {X : Cx} {κ α : Type} {c : κ → Value} {d : α → Value} {b : Nat} {xs : List (κ × α)}
theorem St.atMap {L : List HP} {w : World} (h : St X L w) {i : Nat} (hL : L[i]? = some (mapH c d b xs)) : MapAt c d b xs w ∧ ¬ X.Fr b := by
  obtain ⟨F, hs, _, hb⟩ := h.sat
  obtain ⟨ids, h1, h2⟩ := hs.get hL
  obtain ⟨rfl, h1⟩ := h1
  exact ⟨h1, (hb b (h2 b (by simp))).1⟩
theorem SatIn.mapBlk {Fr : Nat → Prop} {L : List HP} {w : World} (h : SatIn Fr L w) (i : Nat) (hL : L[i]? = some (mapH c d b xs)) : MapBlk Fr w c d b xs := by
  obtain ⟨F, hs, hf⟩ := h
  obtain ⟨ids, ⟨rfl, h1⟩, h2⟩ := hs.get hL
  exact ⟨hf b (h2 b (by simp)), h1⟩
theorem MapBlk.of (h : MapBlk X.Fr X.w0 c d b xs) {Fr' : Nat → Prop} (hF : ∀ b, X.Fr b → Fr' b) {w : World} {L : List HP} (hw : St X L w) : MapBlk Fr' w c d b xs := ⟨hF b h.fr, h.at_.loc (hw.keep.block b h.fr)⟩
def MpL (X : Cx) (L : List HP) (c : κ → Value) (d : α → Value) (b : Nat) (xs : List (κ × α)) : Prop := ∀ w, St X L w → MapAt c d b xs w
theorem MpL.one {L : List HP} (i : Nat) (hL : L[i]? = some (mapH c d b xs)) : MpL X L c d b xs := fun w hw => (hw.atMap hL).1
theorem MpL.blk {L : List HP} (h : MapBlk X.Fr X.w0 c d b xs) : MpL X L c d b xs := fun w hw => h.at_.loc (hw.keep.block b h.fr)

/-- A piece of one block is put anew. -/
theorem Sats.setG : ∀ {L : List HP} {F : List Nat} {w w' : World} {i b : Nat} {H H' : HP}, Sats L F w → F.Nodup → L[i]? = some H → (∀ ids w, H.sat ids w → ids = [b]) → H'.sat [b] w' →
    (∀ c, c ≠ b → w'.heap[c]? = w.heap[c]?) → Sats (L.set i H') F w'
  | [], _, _, _, _, _, _, _, _, _, h, _, _, _ => by simp at h
  | _ :: L, F, w, w', 0, b, H, H', ⟨j, G, hF, hj, hG⟩, hn, h, hi, h1, h2 => by
    simp only [List.getElem?_cons_zero, Option.some.injEq] at h
    subst h; subst hF
    obtain rfl := hi _ _ hj
    refine ⟨[b], G, rfl, h1, hG.loc fun c hc => h2 c fun he => ?_⟩
    subst he
    simp at hn
    exact hn.1 hc
  | K :: L, F, w, w', i + 1, b, H, H', ⟨j, G, hF, hj, hG⟩, hn, h, hi, h1, h2 => by
    simp only [List.getElem?_cons_succ] at h
    subst hF
    obtain ⟨hnj, hnG, hd⟩ := List.nodup_append.1 hn
    obtain ⟨ids, hp, hm⟩ := hG.get h
    obtain rfl := hi _ _ hp
    have hb := hm b (by simp)
    exact ⟨j, G, rfl, K.loc j w w' (fun c hc => h2 c fun he => hd c hc b hb he) hj, Sats.setG hG hnG h hi h1 h2⟩
theorem St.setG {L : List HP} {w : World} (h : St X L w) {i : Nat} {H H' : HP} {o o' : Obj} (hL : L[i]? = some H) (hi : ∀ ids w, H.sat ids w → ids = [b]) (h0 : w.heap[b]? = some o) (hf : ¬ X.Fr b) (h1 : H'.sat [b] (setBlk w b o')) :
    St X (L.set i H') (setBlk w b o') := by
  obtain ⟨F, hs, hn, hb⟩ := h.sat
  refine ⟨⟨F, hs.setG hn hL hi h1 (fun c hc => heap_setBlk_ne (Ne.symm hc)), hn, fun c hc => ⟨(hb c hc).1, by rw [size_setBlk]; exact (hb c hc).2⟩⟩, ?_, h.low⟩
  exact h.keep.trans ⟨rfl, rfl, rfl, by rw [size_setBlk]; exact Nat.le_refl _, fun c hc => heap_setBlk_ne fun he => hf (he ▸ hc)⟩

theorem St.allocM {L : List HP} {w : World} (h : St X L w) : St X (mapH c d w.heap.size ([] : List (κ × α)) :: L) (w.alloc (.map #[] 0)) :=
  ⟨h.sat.alloc h.lowW _ _ ⟨rfl, #[], 0, heap_alloc_new w _, rfl, stamped_empty 0⟩, h.keep.trans (Keep.alloc h.lowW _), h.low⟩
end

/-! ### Operations on maps -/
section
variable {X : Cx} {κ α : Type} [DecidableEq κ] {c : κ → Value} {d : α → Value} {b : Nat} {xs : List (κ × α)} {e : Env} {L : List HP} {T kt et : TypeId} {te : TI} {x y z : Operand}

theorem es_map {es : List MapEntry} {c : κ → Value} {d : α → Value} {xs : List (κ × α)} (h : es.map (fun e => (e.key, e.val)) = xs.map (fun x => (c x.1, d x.2))) {j : Nat} {a : κ} {v : α} (hx : xs[j]? = some (a, v)) : ∃ m, es[j]? = some m ∧ m.key = c a ∧ m.val = d v := by
  have := congrArg (fun l => l[j]?) h
  simp only [List.getElem?_map, hx, Option.map_some] at this
  cases hm : es[j]? with
  | none => rw [hm] at this; cases this
  | some m =>
    rw [hm] at this
    simp only [Option.map_some, Option.some.injEq, Prod.mk.injEq] at this
    exact ⟨m, rfl, this.1, this.2⟩

theorem run_lookup {P : Program} (K : KeyOk P kt c) (hT : P.underlying T = some (.map kt et)) (hE : TIok P et te) (a : κ) (ok : Bool) {w : World} (hM : MapAt c d b xs w) :
    (Instr.lookup T (.map (some b)) (c a) ok).run P w = .ok (bif ok then .tuple #[((mGet xs a).map d).getD te.zero, .bool (mGet xs a).isSome] else ((mGet xs a).map d).getD te.zero) w := by
  obtain ⟨es, clock, h1, h2, h3⟩ := hM
  have hf := K.find d a xs es.toList h2 w
  cases hl : lookI xs a 0 with
  | none =>
    obtain ⟨hg, _⟩ := lookI_none hl
    rw [hl] at hf
    cases ok <;> simp [Instr.lookup, run_underlying hT, MapKept.run_getObj_map h1, K.check, hf, hg, run_zero hE, Result.andThen]
  | some p =>
    obtain ⟨j, v⟩ := p
    obtain ⟨_, _, hg, _⟩ := lookI_some hl
    rw [hl] at hf
    cases ok <;> simp [Instr.lookup, run_underlying hT, MapKept.run_getObj_map h1, K.check, hf, hg, Result.andThen]

theorem OpT.lookup (K : KeyOk X.P kt c) (hT : X.P.underlying T = some (.map kt et)) (hE : tyLook X.tab et = some te) {a : κ} {ok : Bool} (hx : ev e x = some (.map (some b))) (hk : ev e y = some (c a)) (hM : MpL X L c d b xs) :
    OpT X (.lookup T x y ok) e L (fun u L' => u = (bif ok then .tuple #[((mGet xs a).map d).getD te.zero, .bool (mGet xs a).isSome] else ((mGet xs a).map d).getD te.zero) ∧ L' = L) := fun ac w ha hw dst ty pos after guard => by
  refine .inl ⟨_, w, L, ?_, ⟨rfl, rfl⟩, hw⟩
  simp only [execOp, ha.ev hx, ha.ev hk]
  rw [Sem.run_bind, run_lookup K hT (X.ok.look hE) a ok (hM w hw)]; rfl

theorem map_put {P : Program} (K : KeyOk P kt c) (a : κ) (u : α) {es : Array MapEntry} {clock : Nat} (h2 : es.toList.map (fun e => (e.key, e.val)) = xs.map (fun x => (c x.1, d x.2))) (h3 : Stamped es clock) :
    (∀ {j v}, lookI xs a 0 = some (j, v) → ∃ m, es[j]? = some m ∧ m.key = c a ∧ (es.modify j fun e => { e with key := c a, val := d u }).toList.map (fun e => (e.key, e.val)) = (mPut xs a u).map (fun x => (c x.1, d x.2)) ∧ Stamped (es.modify j fun e => { e with key := c a, val := d u }) clock) ∧
    (lookI xs a 0 = none → (es.push { key := c a, val := d u, born := clock }).toList.map (fun e => (e.key, e.val)) = (mPut xs a u).map (fun x => (c x.1, d x.2)) ∧ Stamped (es.push { key := c a, val := d u, born := clock }) (clock + 1)) := by
  constructor
  · intro j v hl
    obtain ⟨_, hj, _, hp, _⟩ := lookI_some hl
    rw [Nat.sub_zero] at hj hp
    obtain ⟨m, hm, hmk, hmv⟩ := es_map h2 hj
    have hm' : es[j]? = some m := by simpa using hm
    refine ⟨m, hm', hmk, ?_, stamped_modify h3 j _ (fun _ _ => rfl) (fun e _ he => ?_)⟩
    · rw [hp]
      apply List.ext_getElem?
      intro k
      have hk := congrArg (fun l => l[k]?) h2
      simp only [List.getElem?_map] at hk ⊢
      by_cases hjk : j = k
      · subst hjk
        have hlt : j < xs.length := (List.getElem?_eq_some_iff.1 hj).1
        have hlt2 : j < es.size := (Array.getElem?_eq_some_iff.1 hm').1
        simp [hlt, hlt2, Array.getElem?_toList, Array.getElem_modify]
      · rw [List.getElem?_set_ne hjk, ← hk]
        simp only [Array.getElem?_toList, Array.getElem?_modify, if_neg hjk]
    · rw [hm'] at he; cases he; exact hmk.symm
  · intro hl
    obtain ⟨_, hne, hp, _⟩ := lookI_none hl
    refine ⟨by rw [hp]; simp [h2], stamped_push h3 fun m hm => ?_⟩
    intro he
    have : (m.key, m.val) ∈ es.toList.map (fun e => (e.key, e.val)) := List.mem_map.2 ⟨m, hm, rfl⟩
    rw [h2] at this
    obtain ⟨x, hx, hx2⟩ := List.mem_map.1 this
    have : c x.1 = m.key := congrArg Prod.fst hx2
    exact hne x hx (K.inj _ _ (this.trans he))

theorem run_keyStays {P : Program} (K : KeyOk P kt c) (a : κ) (w : World) : (Instr.keyThatStays (c a) (c a)).run P w = .ok (c a) w := by
  simp [Instr.keyThatStays, K.bits]

theorem OpT.mapUpdate (i : Nat) (K : KeyOk X.P kt c) (hT : X.P.underlying T = some (.map kt et)) {a : κ} {u : α} (hx : ev e x = some (.map (some b))) (hk : ev e y = some (c a)) (hv : ev e z = some (d u)) (hL : L[i]? = some (mapH c d b xs)) :
    OpT X (.mapUpdate T x y z) e L (fun v L' => v = undef ∧ L' = L.set i (mapH c d b (mPut xs a u))) := fun ac w ha hw dst ty pos after guard => by
  obtain ⟨⟨es, clock, h1, h2, h3⟩, hf⟩ := hw.atMap hL
  have hfi := K.find d a xs es.toList h2 w
  obtain ⟨p1, p2⟩ := map_put K a u h2 h3
  have hids : ∀ ids w, (mapH c d b xs).sat ids w → ids = [b] := fun _ _ h => h.1
  cases hl : lookI xs a 0 with
  | none =>
    obtain ⟨q1, q2⟩ := p2 hl
    rw [hl] at hfi
    refine .inr (.inl ⟨setBlk w b (.map (es.push { key := c a, val := d u, born := clock }) (clock + 1)), _, ?_, ⟨rfl, rfl⟩, hw.setG hL hids h1 hf ⟨rfl, _, _, heap_setBlk h1, q1, q2⟩⟩)
    have : (Instr.mapUpdate T (.map (some b)) (c a) (d u)).run X.P w = .ok () (setBlk w b (.map (es.push { key := c a, val := d u, born := clock }) (clock + 1))) := by
      simp [Instr.mapUpdate, run_underlying hT, MapKept.run_getObj_map h1, K.check, hfi, MapKept.run_setObj_map _ h1, Result.andThen, setBlk]
    simp only [execOp, ha.ev hx, ha.ev hk, ha.ev hv]
    rw [Sem.run_bind, this]; rfl
  | some p =>
    obtain ⟨j, v⟩ := p
    obtain ⟨m, hm, hmk, q1, q2⟩ := p1 hl
    rw [hl] at hfi
    refine .inr (.inl ⟨setBlk w b (.map (es.modify j fun e => { e with key := c a, val := d u }) clock), _, ?_, ⟨rfl, rfl⟩, hw.setG hL hids h1 hf ⟨rfl, _, _, heap_setBlk h1, q1, q2⟩⟩)
    have : (Instr.mapUpdate T (.map (some b)) (c a) (d u)).run X.P w = .ok () (setBlk w b (.map (es.modify j fun e => { e with key := c a, val := d u }) clock)) := by
      simp [Instr.mapUpdate, run_underlying hT, MapKept.run_getObj_map h1, K.check, hfi, hm, hmk, run_keyStays K, MapKept.run_setObj_map _ h1, Result.andThen, setBlk]
    simp only [execOp, ha.ev hx, ha.ev hk, ha.ev hv]
    rw [Sem.run_bind, this]; rfl

theorem map_eraseIdx {β γ : Type} (f : β → γ) : ∀ (l : List β) (i : Nat), (l.eraseIdx i).map f = (l.map f).eraseIdx i
  | [], _ => rfl
  | _ :: _, 0 => rfl
  | x :: l, i + 1 => by simp [map_eraseIdx f l i]
theorem map_del {j : Nat} {v : α} {a : κ} {es : Array MapEntry} (h2 : es.toList.map (fun e => (e.key, e.val)) = xs.map (fun x => (c x.1, d x.2))) (hl : lookI xs a 0 = some (j, v)) :
    (es.eraseIdxIfInBounds j).toList.map (fun e => (e.key, e.val)) = (mDel xs a).map (fun x => (c x.1, d x.2)) := by
  obtain ⟨_, hj, _, _, hp⟩ := lookI_some hl
  rw [Nat.sub_zero] at hj hp
  obtain ⟨m, hm, _⟩ := es_map h2 hj
  have hlt : j < es.size := by have := (List.getElem?_eq_some_iff.1 hm).1; simpa using this
  rw [hp]
  unfold Array.eraseIdxIfInBounds
  rw [dif_pos hlt, Array.toList_eraseIdx, map_eraseIdx, map_eraseIdx, h2]

theorem OpT.delete (i : Nat) (K : KeyOk X.P kt c) (hT : X.P.underlying T = some (.map kt et)) {t2 : TypeId} {a : κ} (hx : ev e x = some (.map (some b))) (hk : ev e y = some (c a)) (hL : L[i]? = some (mapH c d b xs)) :
    OpT X (.call ⟨.builtin .delete, #[x, y], #[T, t2]⟩) e L (fun v L' => v = .tuple #[] ∧ L' = L.set i (mapH c d b (mDel xs a))) := fun ac w ha hw dst ty pos after guard => by
  obtain ⟨⟨es, clock, h1, h2, h3⟩, hf⟩ := hw.atMap hL
  have hfi := K.find d a xs es.toList h2 w
  have hids : ∀ ids w, (mapH c d b xs).sat ids w → ids = [b] := fun _ _ h => h.1
  cases hl : lookI xs a 0 with
  | none =>
    obtain ⟨_, _, _, hd⟩ := lookI_none hl
    rw [hl] at hfi
    refine .inl ⟨_, setBlk w b (.map es clock), _, ?_, ⟨rfl, rfl⟩, hw.setG hL hids h1 hf ⟨rfl, _, _, heap_setBlk h1, by rw [hd]; exact h2, h3⟩⟩
    have : (Builtin.delete_ #[T, t2] ty #[.map (some b), c a]).run X.P w = .ok (.tuple #[]) (setBlk w b (.map es clock)) := by
      simp [Builtin.delete_, run_underlying hT, MapKept.run_getObj_map h1, K.check, hfi, MapKept.run_setObj_map _ h1, Result.andThen, setBlk]
    simp [execOp, resolve, invoke, builtin, ha.ev hx, ha.ev hk, this]
  | some p =>
    obtain ⟨j, v⟩ := p
    rw [hl] at hfi
    refine .inl ⟨_, setBlk w b (.map (es.eraseIdxIfInBounds j) clock), _, ?_, ⟨rfl, rfl⟩, hw.setG hL hids h1 hf ⟨rfl, _, _, heap_setBlk h1, map_del h2 hl, stamped_erase h3 j⟩⟩
    have : (Builtin.delete_ #[T, t2] ty #[.map (some b), c a]).run X.P w = .ok (.tuple #[]) (setBlk w b (.map (es.eraseIdxIfInBounds j) clock)) := by
      simp [Builtin.delete_, run_underlying hT, MapKept.run_getObj_map h1, K.check, hfi, MapKept.run_setObj_map _ h1, Result.andThen, setBlk]
    simp [execOp, resolve, invoke, builtin, ha.ev hx, ha.ev hk, this]

theorem OpT.makeMap (c : κ → Value) (d : α → Value) {T : TypeId} : OpT X (.makeMap T none) e L (fun v L' => ∃ b, v = .map (some b) ∧ L' = mapH c d b ([] : List (κ × α)) :: L) := fun ac w ha hw dst ty pos after guard => by
  refine .inl ⟨_, w.alloc (.map #[] 0), _, ?_, ⟨w.heap.size, rfl, rfl⟩, hw.allocM⟩
  simp [execOp, Instr.makeMap, newObj, Sem.run]

theorem OpT.lenMap (hT : X.P.underlying T = some (.map kt et)) (hx : ev e x = some (.map (some b))) (hM : MpL X L c d b xs) :
    OpT X (.call ⟨.builtin .len, #[x], #[T]⟩) e L (fun v L' => v = .int .i64 xs.length ∧ L' = L) := fun ac w ha hw dst ty pos after guard => by
  obtain ⟨es, clock, h1, h2, h3⟩ := hM w hw
  have hlen : es.size = xs.length := by have := congrArg List.length h2; simpa using this
  refine .inl ⟨_, w, L, ?_, ⟨rfl, rfl⟩, hw⟩
  have : (Builtin.len_ #[T] ty #[.map (some b)]).run X.P w = .ok (.int .i64 xs.length) w := by
    simp [Builtin.len_, run_underlying hT, MapKept.run_getObj_map h1, goInt, Result.andThen, hlen]
  simp [execOp, resolve, invoke, builtin, ha.ev hx, this]
end

section
variable {X : Cx} {ops : Array Oper} {G : GS} {l : List Oper} {e : Env} {L : List HP} {K : Env → List HP → Prop}
  {dst : Option Tmp} {ty : TypeId} {pos : String} {after : Array Edge} {guard : Option (Nat × Bool)}
/-- Any operation, one way on. -/
theorem VO.op1 {op : Op} {v : Value} {L' : List HP} (h : OpT X op e L (fun u M => u = v ∧ M = L')) (hk : VO X ops G l (putE dst v e) L' K)
    (hg : gOn ops G guard = some true := by rfl) (hd : dstOk X.n dst = true := by rfl) (hf : gFree G dst = true := by rfl) : VO X ops G (⟨dst, op, ty, pos, after, guard⟩ :: l) e L K :=
  VO.op hg hd hf h (fun _ _ ⟨h1, h2⟩ => by subst h1; subst h2; exact hk)
theorem VO.opx {op : Op} {M : Value → List HP → Prop} (h : OpT X op e L M) (hk : ∀ v L', M v L' → VO X ops G l (putE dst v e) L' K)
    (hg : gOn ops G guard = some true := by rfl) (hd : dstOk X.n dst = true := by rfl) (hf : gFree G dst = true := by rfl) : VO X ops G (⟨dst, op, ty, pos, after, guard⟩ :: l) e L K :=
  VO.op hg hd hf h hk
end

/-- A map held against nil. -/
theorem run_equal_map {P : Program} {ty k el : Nat} (hund : P.underlying ty = some (.map k el)) (a : Option Nat) (w : World) : (Op.equal ty (.map a) (.map none)).run P w = .ok a.isNone w := by
  unfold Op.equal
  show (Op.equalIn (9999 + 1) ty (.map a) (.map none)).run P w = _
  rw [Op.equalIn, Sem.run_bind, run_underlying hund]
  cases a <;> rfl
theorem light_mapNil {X : Cx} {e : Env} {T k el yt : TypeId} {x y : Operand} {a : Option Nat} (hund : X.P.underlying T = some (.map k el)) (hx : ev e x = some (.map a)) (hy : ev e y = some (.map none)) : Light X (.binOp .eql T x y yt) e (.bool a.isNone) := by
  intro a' ha dst t pos after guard w
  simp only [execOp, ha.ev hx, ha.ev hy]
  have h : (do eqGuard .eql T x y (.map a) (.map none); binOp .eql T (.map a) (.map none) : Sem Value).run X.P w = .ok (.bool a.isNone) w := by
    show ((do pure (.bool (← Op.equal T (.map a) (.map none))) : Sem Value)).run X.P w = _
    rw [Sem.run_bind, run_equal_map hund]; rfl
  rw [Sem.run_bind, h]; rfl

/-! ### Structs held against one another -/
/-- '==' of two structs, from how these compare. -/
theorem light_eqS {X : Cx} {e : Env} {T yt : TypeId} {x y : Operand} {xs ys : Array Value} {r : Bool} (hm : X.P.eqGuardType X.P.depth T = false) (hx : ev e x = some (.agg xs)) (hy : ev e y = some (.agg ys))
    (h : ∀ w : World, (Op.equal T (.agg xs) (.agg ys)).run X.P w = .ok r w) : Light X (.binOp .eql T x y yt) e (.bool r) := by
  intro a' ha dst t pos after guard w
  simp only [execOp, ha.ev hx, ha.ev hy]
  have h2 : (do eqGuard .eql T x y (.agg xs) (.agg ys); binOp .eql T (.agg xs) (.agg ys) : Sem Value).run X.P w = .ok (.bool r) w := by
    rw [Sem.run_bind, run_eqGuard_agg w .eql T x y xs ys hm, Result.andThen_ok]
    show ((do pure (.bool (← Op.equal T (.agg xs) (.agg ys))) : Sem Value)).run X.P w = _
    rw [Sem.run_bind, h]; rfl
  rw [Sem.run_bind, h2]; rfl
theorem light_neS {X : Cx} {e : Env} {T yt : TypeId} {x y : Operand} {xs ys : Array Value} {r : Bool} (hm : X.P.eqGuardType X.P.depth T = false) (hx : ev e x = some (.agg xs)) (hy : ev e y = some (.agg ys))
    (h : ∀ w : World, (Op.equal T (.agg xs) (.agg ys)).run X.P w = .ok r w) : Light X (.binOp .neq T x y yt) e (.bool (!r)) := by
  intro a' ha dst t pos after guard w
  simp only [execOp, ha.ev hx, ha.ev hy]
  have h2 : (do eqGuard .neq T x y (.agg xs) (.agg ys); binOp .neq T (.agg xs) (.agg ys) : Sem Value).run X.P w = .ok (.bool (!r)) w := by
    rw [Sem.run_bind, run_eqGuard_agg w .neq T x y xs ys hm, Result.andThen_ok]
    show ((do pure (.bool (!(← Op.equal T (.agg xs) (.agg ys)))) : Sem Value)).run X.P w = _
    rw [Sem.run_bind, h]; rfl
  rw [Sem.run_bind, h2]; rfl

/-! ### Maps in regions that draw -/
section
variable {X : Cx} {κ α : Type} [DecidableEq κ] {c : κ → Value} {d : α → Value} {b : Nat} {xs : List (κ × α)} {ops : Array Oper} {G : GS} {pl : Plan} {S : Pend} {e : Env} {L : List HP} {K : Env → List HP → Prop}
  {dst : Option Tmp} {ty : TypeId} {pos : String} {after : Array Edge} {guard : Option (Nat × Bool)}
theorem VA.lookup {i : Nat} {T kt et : TypeId} {te : TI} {x y : Operand} {a : κ} {ok : Bool} (KO : KeyOk X.P kt c) (hT : X.P.underlying T = some (.map kt et)) (hE : tyLook X.tab et = some te)
    (hi : ops.toList[i]? = some ⟨dst, .lookup T x y ok, ty, pos, after, guard⟩) (hx : ev e x = some (.map (some b))) (hk : ev e y = some (c a)) (hM : MpL X L c d b xs)
    (hn : VA X ops G pl ((i, MapAt c d b xs) :: S) (putE dst (bif ok then .tuple #[((mGet xs a).map d).getD te.zero, .bool (mGet xs a).isSome] else ((mGet xs a).map d).getD te.zero) e) L K)
    (hg : gOn ops G guard = some true := by rfl) (hd : dstOk X.n dst = true := by rfl) (hf : gFree G dst = true := by rfl) : VA X ops G (.take i pl) S e L K :=
  VA.first (Si := MapAt c d b xs) hi hd hf (fun ac ha hG => .inl ⟨gOn_wanted hG hg, fun w hw => by
    simp only [execOp, ha.ev hx, ha.ev hk]
    rw [Sem.run_bind, run_lookup KO hT (X.ok.look hE) a ok hw]; rfl⟩) hM hn
theorem Pd.consM {i : Nat} (h : MpL X L c d b xs) (hs : Pd X L S) : Pd X L ((i, MapAt c d b xs) :: S) := fun p hp w hw => by
  rcases List.mem_cons.1 hp with rfl | hp
  · exact h w hw
  · exact hs p hp w hw
theorem Pd.fconsM {f : Nat × (World → Prop) → Bool} {i : Nat} (h : MpL X L c d b xs) (hs : Pd X L (S.filter f)) : Pd X L (((i, MapAt c d b xs) :: S).filter f) := fun p hp => by
  obtain ⟨h1, h2⟩ := List.mem_filter.1 hp
  rcases List.mem_cons.1 h1 with rfl | h1
  · exact fun w hw => h w hw
  · exact hs p (List.mem_filter.2 ⟨h1, h2⟩)
end
end Go.Proofs.YtbbnmgakmcppdaaGreat.Vg
