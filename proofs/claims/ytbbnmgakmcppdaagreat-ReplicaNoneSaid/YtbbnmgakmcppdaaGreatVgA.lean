/- The engine, part A: what the frame's slots hold, what the heap holds by pieces, and the judgements on code. No program is named; nothing is assumed. -/
import Derived.OrdersHeld
import Derived.Deep.MidRow
import Derived.Laws.AppendOwn
import Derived.Below
namespace Go.Proofs.YtbbnmgakmcppdaaGreat.Vg
open Go

/-! ### What is known of a frame's slots -/
abbrev Env := List (Nat × Value)

def look : Env → Nat → Option Value
  | [], _ => none
  | (s, v) :: r, t => bif Nat.beq s t then some v else look r t

def ev (e : Env) : Operand → Option Value
  | .tmp t => look e t
  | .const v => some v
  | .global g => some (.pointer (some ⟨g, 0, none⟩))
  | .func f => some (.func (.func f) #[] #[])

def evs (e : Env) : List Operand → Option (List Value)
  | [] => some []
  | x :: r => match ev e x, evs e r with
    | some v, some vs => some (v :: vs)
    | _, _ => none

structure Agr (n : Nat) (a : Act) (e : Env) : Prop where
  size : a.tmps.size = n
  defers : a.defers = []
  at_ : ∀ t v, look e t = some v → a.tmps.getD t undef = v

theorem Agr.put {n : Nat} {a : Act} {e : Env} (h : Agr n a e) {d : Nat} (hd : Nat.blt d n = true) (v : Value) : Agr n (a.put (some d) v) ((d, v) :: e) := by
  have hd' : d < a.tmps.size := by rw [h.size]; exact Nat.blt_eq.mp hd
  refine ⟨by simp [Act.put, h.size], by simp [Act.put, h.defers], fun t u ht => ?_⟩
  simp only [look] at ht
  cases hb : Nat.beq d t
  · rw [hb] at ht
    have hne : d ≠ t := Nat.ne_of_beq_eq_false hb
    have := h.at_ t u ht
    simpa [Act.put, Array.getElem?_setIfInBounds_ne hne] using this
  · rw [hb] at ht
    have he : d = t := Nat.eq_of_beq_eq_true hb
    subst he
    simp only [cond_true, Option.some.injEq] at ht
    subst ht
    simp [Act.put, hd']

def putE (dst : Option Tmp) (v : Value) (e : Env) : Env :=
  match dst with
  | some d => (d, v) :: e
  | none => e
def dstOk (n : Nat) : Option Tmp → Bool
  | some d => Nat.blt d n
  | none => true

theorem Agr.putE {n : Nat} {a : Act} {e : Env} (h : Agr n a e) {dst : Option Tmp} (hd : dstOk n dst = true) (v : Value) : Agr n (a.put dst v) (putE dst v e) := by
  cases dst with
  | none => exact h
  | some d => exact h.put hd v

def Sub (e' e : Env) : Prop := ∀ t v, look e' t = some v → look e t = some v
theorem Sub.refl (e : Env) : Sub e e := fun _ _ h => h
theorem Sub.nil (e : Env) : Sub [] e := fun _ _ h => by cases h
theorem Sub.cons {e' e : Env} {t : Nat} {v : Value} (h : look e t = some v) (hs : Sub e' e) : Sub ((t, v) :: e') e := fun s u hu => by
  simp only [look] at hu
  cases hb : Nat.beq t s
  · rw [hb] at hu; exact hs s u hu
  · rw [hb] at hu
    have he : t = s := Nat.eq_of_beq_eq_true hb
    subst he
    simp only [cond_true, Option.some.injEq] at hu
    subst hu; exact h
theorem Sub.int {e' e : Env} {t : Nat} {k : IntKind} {a b : Int} (h : look e t = some (.int k a)) (hab : a = b) (hs : Sub e' e) : Sub ((t, .int k b) :: e') e := by
  subst hab; exact Sub.cons h hs
theorem Agr.sub {n : Nat} {a : Act} {e e' : Env} (h : Agr n a e) (hs : Sub e' e) : Agr n a e' := ⟨h.size, h.defers, fun t v ht => h.at_ t v (hs t v ht)⟩

theorem Agr.ev {n : Nat} {a : Act} {e : Env} (h : Agr n a e) {x : Operand} {v : Value} (hx : ev e x = some v) : a.eval x = v := by
  cases x with
  | tmp t => exact h.at_ t v hx
  | const u => simpa [Vg.ev, Act.eval] using hx
  | global g => simpa [Vg.ev, Act.eval] using hx
  | func f => simpa [Vg.ev, Act.eval] using hx

theorem Agr.evs {n : Nat} {a : Act} {e : Env} (h : Agr n a e) : ∀ {xs : List Operand} {vs : List Value}, evs e xs = some vs → xs.map a.eval = vs
  | [], vs, hx => by simpa [Vg.evs] using hx
  | x :: r, vs, hx => by
    simp only [Vg.evs] at hx
    split at hx
    · rename_i v us hv hus
      simp only [Option.some.injEq] at hx
      subst hx
      simp [h.ev hv, Agr.evs h hus]
    · cases hx

/-! ### What is known of the heap: a list of pieces, each with blocks of its own -/
structure HP where
  sat : List Nat → World → Prop
  loc : ∀ ids w w', (∀ b ∈ ids, w'.heap[b]? = w.heap[b]?) → sat ids w → sat ids w'

def Sats : List HP → List Nat → World → Prop
  | [], F, _ => F = []
  | H :: L, F, w => ∃ i G, F = i ++ G ∧ H.sat i w ∧ Sats L G w

theorem Sats.loc : ∀ {L : List HP} {F : List Nat} {w w' : World}, (∀ b ∈ F, w'.heap[b]? = w.heap[b]?) → Sats L F w → Sats L F w'
  | [], _, _, _, _, h => h
  | H :: L, F, w, w', hb, ⟨i, G, hF, hi, hG⟩ => by
    subst hF
    exact ⟨i, G, rfl, H.loc i w w' (fun b hb' => hb b (by simp [hb'])) hi, Sats.loc (fun b hb' => hb b (by simp [hb'])) hG⟩

theorem Sats.append : ∀ {L M : List HP} {F : List Nat} {w : World}, Sats (L ++ M) F w ↔ ∃ G K, F = G ++ K ∧ Sats L G w ∧ Sats M K w
  | [], M, F, w => by
    constructor
    · intro h; exact ⟨[], F, rfl, rfl, h⟩
    · rintro ⟨G, K, rfl, hG, hK⟩; cases hG; exact hK
  | H :: L, M, F, w => by
    simp only [List.cons_append, Sats]
    constructor
    · rintro ⟨i, G, rfl, hi, hG⟩
      obtain ⟨G1, K, rfl, h1, h2⟩ := Sats.append.1 hG
      exact ⟨i ++ G1, K, by simp, ⟨i, G1, rfl, hi, h1⟩, h2⟩
    · rintro ⟨_, K, rfl, ⟨i, G, rfl, hi, hG⟩, hK⟩
      exact ⟨i, G ++ K, by simp, hi, Sats.append.2 ⟨G, K, rfl, hG, hK⟩⟩

theorem Sats.perm {L M : List HP} (hp : L.Perm M) : ∀ {F : List Nat} {w : World}, Sats L F w → ∃ G, F.Perm G ∧ Sats M G w := by
  induction hp with
  | nil => intro F w h; exact ⟨F, .refl _, h⟩
  | cons x _ ih =>
    rintro F w ⟨i, G, rfl, hi, hG⟩
    obtain ⟨K, hK, hs⟩ := ih hG
    exact ⟨i ++ K, hK.append_left i, i, K, rfl, hi, hs⟩
  | swap x y l =>
    rintro F w ⟨i, G, rfl, hi, j, K, rfl, hj, hK⟩
    refine ⟨j ++ (i ++ K), ?_, j, i ++ K, rfl, hj, i, K, rfl, hi, hK⟩
    rw [← List.append_assoc, ← List.append_assoc]
    exact List.Perm.append_right K List.perm_append_comm
  | trans _ _ ih1 ih2 =>
    intro F w h
    obtain ⟨G, hG, h1⟩ := ih1 h
    obtain ⟨K, hK, h2⟩ := ih2 h1
    exact ⟨K, hG.trans hK, h2⟩

def Sat (Fr : Nat → Prop) (L : List HP) (w : World) : Prop := ∃ F, Sats L F w ∧ F.Nodup ∧ ∀ b ∈ F, ¬ Fr b ∧ b < w.heap.size

theorem Sat.perm {Fr : Nat → Prop} {L M : List HP} {w : World} (hp : L.Perm M) (h : Sat Fr L w) : Sat Fr M w := by
  obtain ⟨F, hs, hn, hb⟩ := h
  obtain ⟨G, hG, hs'⟩ := hs.perm hp
  exact ⟨G, hs', hG.nodup_iff.1 hn, fun b h => hb b (hG.mem_iff.2 h)⟩

theorem Sat.nil {Fr : Nat → Prop} {w : World} : Sat Fr [] w := ⟨[], rfl, .nil, fun _ h => by cases h⟩

theorem Sat.tail {Fr : Nat → Prop} {H : HP} {L : List HP} {w : World} (h : Sat Fr (H :: L) w) : Sat Fr L w := by
  obtain ⟨F, ⟨i, G, rfl, _, hG⟩, hn, hb⟩ := h
  exact ⟨G, hG, (List.nodup_append.1 hn).2.1, fun b h => hb b (by simp [h])⟩

theorem Sat.drop_left {Fr : Nat → Prop} {L M : List HP} {w : World} (h : Sat Fr (L ++ M) w) : Sat Fr M w := by
  obtain ⟨F, hs, hn, hb⟩ := h
  obtain ⟨G, K, rfl, _, hK⟩ := Sats.append.1 hs
  exact ⟨K, hK, (List.nodup_append.1 hn).2.1, fun b h => hb b (by simp [h])⟩

structure Keep (Fr : Nat → Prop) (w w' : World) : Prop where
  os : w'.os = w.os
  tape : w'.tape = w.tape
  output : w'.output = w.output
  size : w.heap.size ≤ w'.heap.size
  block : ∀ b, Fr b → w'.heap[b]? = w.heap[b]?

theorem Keep.refl (Fr : Nat → Prop) (w : World) : Keep Fr w w := ⟨rfl, rfl, rfl, Nat.le_refl _, fun _ _ => rfl⟩
theorem Keep.trans {Fr : Nat → Prop} {a b c : World} (h : Keep Fr a b) (k : Keep Fr b c) : Keep Fr a c :=
  ⟨k.os.trans h.os, k.tape.trans h.tape, k.output.trans h.output, Nat.le_trans h.size k.size, fun b hb => (k.block b hb).trans (h.block b hb)⟩
theorem Keep.mono {Fr Fr' : Nat → Prop} {a b : World} (h : Keep Fr' a b) (hf : ∀ x, Fr x → Fr' x) : Keep Fr a b := ⟨h.os, h.tape, h.output, h.size, fun x hx => h.block x (hf x hx)⟩
theorem Keep.drew (Fr : Nat → Prop) (w : World) : Keep Fr w { w with drawn := w.drawn + 1 } := ⟨rfl, rfl, rfl, Nat.le_refl _, fun _ _ => rfl⟩
theorem Keep.alloc {Fr : Nat → Prop} {w : World} (hf : ∀ b, Fr b → b < w.heap.size) (o : Obj) : Keep Fr w (w.alloc o) :=
  ⟨rfl, rfl, rfl, by simp, fun b hb => heap_alloc_old w o b (hf b hb)⟩
theorem Keep.setCell {Fr : Nat → Prop} {w : World} {a : Addr} (ha : ¬ Fr a.block) (v : Value) : Keep Fr w (w.setCell a v) :=
  ⟨rfl, rfl, rfl, by simp, fun b hb => heap_setCell_other w a b v (fun h => ha (h ▸ hb))⟩
theorem Keep.below {w w' : World} (h : Keep (fun b => b < w.heap.size) w w') : RowKit.Below w.heap.size w w' := ⟨h.os, h.tape, h.output, h.size, h.block⟩

/-- Facts on the heap alone stay where the heap stays. -/
theorem Sat.heap {Fr : Nat → Prop} {L : List HP} {w w' : World} (hh : w'.heap = w.heap) (h : Sat Fr L w) : Sat Fr L w' := by
  obtain ⟨F, hs, hn, hb⟩ := h
  exact ⟨F, hs.loc (fun b _ => by rw [hh]), hn, fun b h => by rw [hh]; exact hb b h⟩

theorem Sat.alloc {Fr : Nat → Prop} {L : List HP} {w : World} (hf : ∀ b, Fr b → b < w.heap.size) (o : Obj) (H : HP) (hH : H.sat [w.heap.size] (w.alloc o)) (h : Sat Fr L w) : Sat Fr (H :: L) (w.alloc o) := by
  obtain ⟨F, hs, hn, hb⟩ := h
  refine ⟨[w.heap.size] ++ F, ⟨_, F, rfl, hH, hs.loc fun b hb' => heap_alloc_old w o b (hb b hb').2⟩, ?_, ?_⟩
  · rw [List.nodup_append]
    refine ⟨by simp, hn, fun x hx y hy he => ?_⟩
    simp at hx; subst hx; subst he
    exact Nat.lt_irrefl _ (hb _ hy).2
  · intro b hb'
    simp only [List.mem_append, List.mem_singleton] at hb'
    rcases hb' with rfl | hb'
    · exact ⟨fun h => Nat.lt_irrefl _ (hf _ h), by simp⟩
    · exact ⟨(hb b hb').1, by have := (hb b hb').2; simp; omega⟩

/-- A block, known whole. -/
def pt (b : Nat) (cs : List Value) (t : TypeId) : HP :=
  ⟨fun ids w => ids = [b] ∧ w.heap[b]? = some (.cells cs.toArray t (0, 0)), fun _ _ _ h hs => ⟨hs.1, (h b (by simp [hs.1])).trans hs.2⟩⟩
def hpure (φ : Prop) : HP := ⟨fun ids _ => ids = [] ∧ φ, fun _ _ _ _ h => h⟩
def hex {α : Type} (f : α → HP) : HP := ⟨fun ids w => ∃ x, (f x).sat ids w, fun ids w w' hb ⟨x, hx⟩ => ⟨x, (f x).loc ids w w' hb hx⟩⟩
def hsep (L : List HP) : HP := ⟨fun ids w => Sats L ids w, fun _ _ _ hb h => h.loc hb⟩

/-! ### What is known of the types -/
inductive Und where
  | int (k : IntKind) | bool | string | ptr (e : Nat) | slice (e : Nat) | array (len e : Nat) | struct (fs : List (Nat × Nat)) | other
structure TI where
  und : Und
  size : Nat
  bytes : Nat
  zero : Value
  zs : List Value := [zero]

def Und.agg : Und → Bool
  | .array _ _ => true
  | .struct _ => true
  | _ => false

def undOf (P : Program) (t : Nat) : Option Und :=
  match P.underlying t with
  | some (.int k) => some (.int k)
  | some .bool => some .bool
  | some .string => some .string
  | some (.pointer e) => some (.ptr e)
  | some (.slice e) => some (.slice e)
  | some (.array n e) => some (.array n e)
  | some (.struct fs) => some (.struct (fs.toList.map fun f => (f.offset, ((P.info? f.type).map (·.size)).getD 0)))
  | some _ => some .other
  | none => none

structure TIok (P : Program) (t : Nat) (ti : TI) : Prop where
  und : undOf P t = some ti.und
  info : (P.info? t).map (fun i => (i.size, i.bytes, i.zero)) = some (ti.size, ti.bytes, some ti.zero)
  zero : ti.zero.cells = ti.zs.toArray
  len : ti.zs.length = ti.size

abbrev Tab := List (Nat × TI)
def TabOk (P : Program) (tab : Tab) : Prop := ∀ p ∈ tab, TIok P p.1 p.2

def tyLook : Tab → Nat → Option TI
  | [], _ => none
  | (s, v) :: r, t => bif Nat.beq s t then some v else tyLook r t

theorem TabOk.look {P : Program} : ∀ {tab : Tab}, TabOk P tab → ∀ {t : Nat} {ti : TI}, tyLook tab t = some ti → TIok P t ti
  | [], _, _, _, h => by cases h
  | (s, v) :: r, ok, t, ti, h => by
    simp only [tyLook] at h
    cases hb : Nat.beq s t
    · rw [hb] at h; exact TabOk.look (tab := r) (fun p hp => ok p (List.mem_cons_of_mem _ hp)) h
    · rw [hb] at h
      have he : s = t := Nat.eq_of_beq_eq_true hb
      subst he
      simp only [cond_true, Option.some.injEq] at h
      subst h
      exact ok _ (List.mem_cons_self ..)

/-! ### The judgements -/
structure Cx where
  P : Program
  tab : Tab
  ok : TabOk P tab
  n : Nat
  Fr : Nat → Prop
  w0 : World

structure St (X : Cx) (L : List HP) (w : World) : Prop where
  sat : Sat X.Fr L w
  keep : Keep X.Fr X.w0 w
  low : ∀ b, X.Fr b → b < X.w0.heap.size

theorem St.lowW {X : Cx} {L : List HP} {w : World} (h : St X L w) : ∀ b, X.Fr b → b < w.heap.size := fun b hb => Nat.lt_of_lt_of_le (h.low b hb) h.keep.size
theorem St.heap {X : Cx} {L : List HP} {w w' : World} (h : St X L w) (hh : w'.heap = w.heap) (ho : w'.os = w.os) (ht : w'.tape = w.tape) (hu : w'.output = w.output) : St X L w' :=
  ⟨h.sat.heap hh, ⟨ho.trans h.keep.os, ht.trans h.keep.tape, hu.trans h.keep.output, by rw [hh]; exact h.keep.size, fun b hb => by rw [hh]; exact h.keep.block b hb⟩, h.low⟩
theorem St.drew {X : Cx} {L : List HP} {w : World} (h : St X L w) : St X L { w with drawn := w.drawn + 1 } := h.heap rfl rfl rfl rfl

def Ent (X : Cx) (L M : List HP) : Prop := ∀ w, St X L w → St X M w

/-- The guards that are decided: slot and answer. -/
abbrev GS := List (Nat × Bool)
def gLook : GS → Nat → Option Bool
  | [], _ => none
  | (s, v) :: r, t => bif Nat.beq s t then some v else gLook r t
def GOk (G : GS) (a : Act) : Prop := ∀ t b, gLook G t = some b → a.tmps[t]? = some (.bool b)
def gFree (G : GS) : Option Tmp → Bool
  | none => true
  | some d => match gLook G d with
    | none => true
    | some _ => false
theorem GOk.nil (a : Act) : GOk [] a := fun _ _ h => by cases h
theorem GOk.put {G : GS} {a : Act} (h : GOk G a) {dst : Option Tmp} (hf : gFree G dst = true) (v : Value) : GOk G (a.put dst v) := fun t b ht => by
  cases dst with
  | none => exact h t b ht
  | some d =>
    have hne : d ≠ t := fun he => by subst he; simp [gFree, ht] at hf
    simp only [Act.put]
    rw [Array.getElem?_setIfInBounds_ne hne]
    exact h t b ht

def gB : Bool → Bool → Bool
  | true, true => true
  | false, false => true
  | _, _ => false
/-- Is an operation carried out? 'none': not decided. -/
def gOn (ops : Array Oper) (G : GS) : Option (Nat × Bool) → Option Bool
  | none => some true
  | some (j, want) => match ops.toList[j]? with
    | some oj => match oj.dst with
      | some d => match gLook G d with
        | some b => some (gB b want)
        | none => none
      | none => none
    | none => none

theorem gOn_wanted {ops : Array Oper} {G : GS} {a : Act} {o : Oper} {b : Bool} (hG : GOk G a) (h : gOn ops G o.guard = some b) : Region.wanted o (yielded ops a.tmps) = b := by
  unfold Region.wanted
  cases hg : o.guard with
  | none => rw [hg] at h; simpa [gOn] using h
  | some jw =>
    obtain ⟨j, want⟩ := jw
    rw [hg] at h
    simp only [gOn] at h
    cases hj : ops.toList[j]? with
    | none => rw [hj] at h; cases h
    | some oj =>
      rw [hj] at h
      cases hd : oj.dst with
      | none => simp [hd] at h
      | some d =>
        simp only [hd] at h
        cases hl : gLook G d with
        | none => rw [hl] at h; cases h
        | some c =>
          rw [hl] at h
          have hy : yielded ops a.tmps j = some c := by
            unfold yielded
            have hj' : ops[j]? = some oj := by simpa using hj
            simp [hj', hd, hG d c hl]
          simp only [hy]
          cases c <;> cases want <;> simp_all [gB]

def VC (X : Cx) (c : Code) (e : Env) (L : List HP) (Q : Exit → Env → List HP → Prop) : Prop :=
  ∀ a w, Agr X.n a e → St X L w → c.wp X.P (fun x a' w' => ∃ e' L', Agr X.n a' e' ∧ St X L' w' ∧ Q x e' L') a w

def VO (X : Cx) (ops : Array Oper) (G : GS) (l : List Oper) (e : Env) (L : List HP) (K : Env → List HP → Prop) : Prop :=
  ∀ (Q' : Exit → Act → World → Prop), (∀ e' L' a' w', Agr X.n a' e' → St X L' w' → K e' L' → Q' .normal a' w') →
    ∀ a w, Agr X.n a e → GOk G a → St X L w → wpList X.P ops Q' l a w

/-- What a called function does with the pieces that it is given; what else there is ('Fr') stays. -/
def Callable (P : Program) (f : FuncId) : Prop := ∃ fn, P.funcs[f]? = some fn ∧ fn.body.isNone = false ∧ (fn.name == "runtime.NumGoroutine") = false

structure Tri (P : Program) (f : FuncId) (args : List Value) (Fr : Nat → Prop) (w : World) (L : List HP) (R : Value → List HP → Prop) : Prop where
  callable : Callable P f
  calls : (∀ b, Fr b → b < w.heap.size) → Sat Fr L w → Calls P f args.toArray w fun e w' => ∃ v L', e = .returned v ∧ R v L' ∧ Sat Fr L' w' ∧ Keep Fr w w'

/-- One operation: it yields v, and the pieces are then L', so that M v L'. -/
def OpT (X : Cx) (op : Op) (e : Env) (L : List HP) (M : Value → List HP → Prop) : Prop :=
  ∀ a w, Agr X.n a e → St X L w → ∀ dst ty pos after guard,
    (∃ v w' L', (execOp a.eval ⟨dst, op, ty, pos, after, guard⟩).run X.P w = .ok (.value v) w' ∧ M v L' ∧ St X L' w') ∨
    (∃ w' L', (execOp a.eval ⟨dst, op, ty, pos, after, guard⟩).run X.P w = .ok .skip w' ∧ M undef L' ∧ St X L' w') ∨
    (∃ f args, (execOp a.eval ⟨dst, op, ty, pos, after, guard⟩).run X.P w = .ok (.enter f args) w ∧
      Calls X.P f args w fun en w' => ∃ v L', en = .returned v ∧ M v L' ∧ St X L' w')

theorem OpT.wp {X : Cx} {o : Oper} {e : Env} {L : List HP} {M : Value → List HP → Prop} (h : OpT X o.op e L M) {a : Act} {w : World} (ha : Agr X.n a e) (hw : St X L w)
    {next : Act → World → Prop} {Q : Exit → Act → World → Prop} (hn : ∀ v L' w', M v L' → St X L' w' → next (a.put o.dst v) w') : o.wp X.P a w next Q := by
  unfold Oper.wp
  rcases h a w ha hw o.dst o.type o.pos o.after o.guard with ⟨v, w', L', hr, hm, hs⟩ | ⟨w', L', hr, hm, hs⟩ | ⟨f, args, hr, hc⟩
  · rw [hr]; exact hn v L' w' hm hs
  · rw [hr]; exact hn undef L' w' hm hs
  · rw [hr]
    refine Calls.mono hc fun en w' ⟨v, L', he, hm, hs⟩ => ?_
    subst he
    exact hn v L' w' hm hs

theorem VO.op {X : Cx} {ops : Array Oper} {G : GS} {o : Oper} {l : List Oper} {e : Env} {L : List HP} {K : Env → List HP → Prop} {M : Value → List HP → Prop}
    (hg : gOn ops G o.guard = some true) (hd : dstOk X.n o.dst = true) (hf : gFree G o.dst = true) (h : OpT X o.op e L M)
    (hk : ∀ v L', M v L' → VO X ops G l (putE o.dst v e) L' K) : VO X ops G (o :: l) e L K := by
  intro Q' hQ a w ha hG hw
  unfold wpList
  rw [if_pos (gOn_wanted hG hg)]
  refine .inl (h.wp ha hw fun v L' w' hm hs => ?_)
  exact hk v L' hm Q' hQ _ _ (ha.putE hd v) (hG.put hf v) hs

theorem VO.off {X : Cx} {ops : Array Oper} {G : GS} {o : Oper} {l : List Oper} {e : Env} {L : List HP} {K : Env → List HP → Prop}
    (hg : gOn ops G o.guard = some false) (hd : dstOk X.n o.dst = true) (hf : gFree G o.dst = true)
    (hk : VO X ops G l (putE o.dst undef e) L K) : VO X ops G (o :: l) e L K := by
  intro Q' hQ a w ha hG hw
  unfold wpList
  rw [if_neg (by rw [gOn_wanted hG hg]; simp)]
  exact hk Q' hQ _ _ (ha.putE hd _) (hG.put hf _) hw

theorem VO.nil {X : Cx} {ops : Array Oper} {G : GS} {e : Env} {L : List HP} {K : Env → List HP → Prop} (h : K e L) : VO X ops G [] e L K :=
  fun _ hQ _ _ ha _ hw => hQ _ _ _ _ ha hw h

/-- A guard's slot is decided, one way and the other. -/
theorem VO.split {X : Cx} {ops : Array Oper} {G : GS} {l : List Oper} {e : Env} {L : List HP} {K : Env → List HP → Prop} (d : Nat) {b : Bool} (hb : look e d = some (.bool b)) (hd : Nat.blt d X.n = true)
    (ht : b = true → VO X ops ((d, true) :: G) l ((d, .bool true) :: e) L K) (hf : b = false → VO X ops ((d, false) :: G) l ((d, .bool false) :: e) L K) : VO X ops G l e L K := by
  intro Q' hQ a w ha hG hw
  have hs : a.tmps[d]? = some (.bool b) := by
    have := ha.at_ d _ hb
    have hlt : d < a.tmps.size := by rw [ha.size]; exact Nat.blt_eq.mp hd
    simpa [hlt] using this
  have key : ∀ c, b = c → Agr X.n a ((d, .bool c) :: e) ∧ GOk ((d, c) :: G) a := fun c hc => by
    subst hc
    refine ⟨⟨ha.size, ha.defers, fun t u ht => ?_⟩, fun t u ht => ?_⟩
    · simp only [look] at ht
      cases hq : Nat.beq d t
      · rw [hq] at ht; exact ha.at_ t u ht
      · rw [hq] at ht
        have := Nat.eq_of_beq_eq_true hq
        subst this
        simp only [cond_true, Option.some.injEq] at ht
        subst ht; exact ha.at_ _ _ hb
    · simp only [gLook] at ht
      cases hq : Nat.beq d t
      · rw [hq] at ht; exact hG t u ht
      · rw [hq] at ht
        have := Nat.eq_of_beq_eq_true hq
        subst this
        simp only [cond_true, Option.some.injEq] at ht
        subst ht; exact hs
  cases b
  · exact hf rfl Q' hQ a w (key _ rfl).1 (key _ rfl).2 hw
  · exact ht rfl Q' hQ a w (key _ rfl).1 (key _ rfl).2 hw

/-- Fewer slots known. -/
theorem VO.sub {X : Cx} {ops : Array Oper} {G : GS} {l : List Oper} {e e' : Env} {L : List HP} {K : Env → List HP → Prop} (hs : Sub e' e) (h : VO X ops G l e' L K) : VO X ops G l e L K :=
  fun Q' hQ a w ha hG hw => h Q' hQ a w (ha.sub hs) hG hw
theorem VO.ent {X : Cx} {ops : Array Oper} {G : GS} {l : List Oper} {e : Env} {L L' : List HP} {K : Env → List HP → Prop} (hs : Ent X L L') (h : VO X ops G l e L' K) : VO X ops G l e L K :=
  fun Q' hQ a w ha hG hw => h Q' hQ a w ha hG (hs w hw)

/-! ### Code -/
theorem VC.mono {X : Cx} {c : Code} {e : Env} {L : List HP} {Q Q' : Exit → Env → List HP → Prop} (h : VC X c e L Q) (hq : ∀ x e L, Q x e L → Q' x e L) : VC X c e L Q' :=
  fun a w ha hw => wp_mono (h a w ha hw) fun _ _ _ ⟨e', L', h1, h2, h3⟩ => ⟨e', L', h1, h2, hq _ _ _ h3⟩
theorem VC.sub {X : Cx} {c : Code} {e e' : Env} {L : List HP} {Q : Exit → Env → List HP → Prop} (hs : Sub e' e) (h : VC X c e' L Q) : VC X c e L Q :=
  fun a w ha hw => h a w (ha.sub hs) hw
theorem VC.ent {X : Cx} {c : Code} {e : Env} {L L' : List HP} {Q : Exit → Env → List HP → Prop} (hs : Ent X L L') (h : VC X c e L' Q) : VC X c e L Q :=
  fun a w ha hw => h a w ha (hs w hw)
/-- Facts that the heap's pieces bear. -/
theorem VC.know {X : Cx} {c : Code} {e : Env} {L : List HP} {Q : Exit → Env → List HP → Prop} {φ : Prop} (hs : ∀ w, St X L w → φ) (h : φ → VC X c e L Q) : VC X c e L Q :=
  fun a w ha hw => h (hs w hw) a w ha hw

def seqQ (X : Cx) (c : Code) (Q : Exit → Env → List HP → Prop) : Exit → Env → List HP → Prop
  | .normal, e, L => VC X c e L Q
  | x, e, L => Q x e L
def blockQ (id : Nat) (Q : Exit → Env → List HP → Prop) : Exit → Env → List HP → Prop
  | .exit j, e, L => bif Nat.beq j id then Q .normal e L else Q (.exit j) e L
  | x, e, L => Q x e L

theorem VC.skip {X : Cx} {e : Env} {L : List HP} {Q : Exit → Env → List HP → Prop} (h : Q .normal e L) : VC X .skip e L Q := fun _ _ ha hw => wp_skip ⟨e, L, ha, hw, h⟩
theorem VC.label {X : Cx} {l : Nat} {e : Env} {L : List HP} {Q : Exit → Env → List HP → Prop} (h : Q .normal e L) : VC X (.label l) e L Q := fun _ _ ha hw => wp_label ⟨e, L, ha, hw, h⟩
theorem VC.exit {X : Cx} {id : Nat} {e : Env} {L : List HP} {Q : Exit → Env → List HP → Prop} (h : Q (.exit id) e L) : VC X (.exit id) e L Q := fun _ _ ha hw => wp_exit ⟨e, L, ha, hw, h⟩
theorem VC.ret {X : Cx} {e : Env} {L : List HP} {Q : Exit → Env → List HP → Prop} (h : Q .ret e L) : VC X .ret e L Q := fun _ _ ha hw => wp_ret ⟨e, L, ha, hw, h⟩
theorem VC.seq {X : Cx} {b c : Code} {e : Env} {L : List HP} {Q : Exit → Env → List HP → Prop} (h : VC X b e L (seqQ X c Q)) : VC X (.seq b c) e L Q := by
  intro a w ha hw
  refine wp_seq (wp_mono (h a w ha hw) fun x a' w' ⟨e', L', h1, h2, h3⟩ => ?_)
  cases x with
  | normal => exact h3 a' w' h1 h2
  | exit id => exact ⟨e', L', h1, h2, h3⟩
  | goto l => exact ⟨e', L', h1, h2, h3⟩
  | ret => exact ⟨e', L', h1, h2, h3⟩
  | panic ch => exact ⟨e', L', h1, h2, h3⟩
  | outgrown => exact ⟨e', L', h1, h2, h3⟩
theorem VC.cond {X : Cx} {x : Operand} {b c : Code} {e : Env} {L : List HP} {Q : Exit → Env → List HP → Prop} {t : Bool} (hx : ev e x = some (.bool t))
    (ht : t = true → VC X b e L Q) (hf : t = false → VC X c e L Q) : VC X (.cond x b c) e L Q :=
  fun a w ha hw => wp_cond_split (ha.ev hx) (fun h => ht h a w ha hw) (fun h => hf h a w ha hw)
theorem VC.block {X : Cx} {id : Nat} {c : Code} {e : Env} {L : List HP} {Q : Exit → Env → List HP → Prop} (h : VC X c e L (blockQ id Q)) : VC X (.block id c) e L Q := by
  intro a w ha hw
  refine wp_block (wp_mono (h a w ha hw) fun x a' w' ⟨e', L', h1, h2, h3⟩ => ?_)
  cases x with
  | exit j =>
    simp only [Exit.inBlock]
    simp only [blockQ] at h3
    cases hb : Nat.beq j id
    · rw [hb] at h3
      rw [if_neg (Nat.ne_of_beq_eq_false hb)]
      exact ⟨e', L', h1, h2, h3⟩
    · rw [hb] at h3
      rw [if_pos (Nat.eq_of_beq_eq_true hb)]
      exact ⟨e', L', h1, h2, h3⟩
  | normal => exact ⟨e', L', h1, h2, h3⟩
  | goto l => exact ⟨e', L', h1, h2, h3⟩
  | ret => exact ⟨e', L', h1, h2, h3⟩
  | panic ch => exact ⟨e', L', h1, h2, h3⟩
  | outgrown => exact ⟨e', L', h1, h2, h3⟩
theorem VC.region {X : Cx} {id : Nat} {l : List Oper} {e : Env} {L : List HP} {Q : Exit → Env → List HP → Prop} (h : VO X l.toArray [] l e L (Q .normal)) : VC X (.region id l.toArray false) e L Q :=
  fun a w ha hw => wp_region_lit (h _ (fun e' L' _ _ h1 h2 h3 => ⟨e', L', h1, h2, h3⟩) a w ha (GOk.nil a) hw)

/-- What a round's end must show. -/
def loopQ (X : Cx) {σ : Type} (E : σ → Env) (H : σ → List HP) (I : σ → Prop) (μ : σ → Nat) (s : σ) (Q : Exit → Env → List HP → Prop) : Exit → Env → List HP → Prop
  | .normal, e, L => ∃ s', I s' ∧ μ s' < μ s ∧ Sub (E s') e ∧ Ent X L (H s')
  | x, e, L => Q x e L
theorem VC.loop {X : Cx} {σ : Type} (E : σ → Env) (H : σ → List HP) (I : σ → Prop) (μ : σ → Nat) (s0 : σ) {c : Code} {e : Env} {L : List HP} {Q : Exit → Env → List HP → Prop}
    (h0 : I s0) (he : Sub (E s0) e) (hl : Ent X L (H s0)) (round : ∀ s, I s → VC X c (E s) (H s) (loopQ X E H I μ s Q)) : VC X (.loop c) e L Q := by
  intro a w ha hw b k cs
  have key : ∀ m s, μ s = m → I s → ∀ a w, Agr X.n a (E s) → St X (H s) w →
      ∃ x a' w', (∃ e' L', Agr X.n a' e' ∧ St X L' w' ∧ Q x e' L') ∧ Arrives X.P (lone (b.at a (.code c :: .inLoop c :: k)) cs w) b k cs x a' w' := by
    intro m
    induction m using Nat.strongRecOn with
    | _ m ih =>
      intro s hm hI a w ha hw
      obtain ⟨x, a₁, w₁, ⟨e', L', h1, h2, h3⟩, harr⟩ := round s hI a w ha hw b (.inLoop c :: k) cs
      cases x with
      | normal =>
        obtain ⟨s', hI', hlt, hE, hH⟩ := h3
        obtain ⟨x₂, a₂, w₂, hq, harr₂⟩ := ih (μ s') (hm ▸ hlt) s' rfl hI' a₁ w₁ (h1.sub hE) (hH _ h2)
        exact ⟨x₂, a₂, w₂, hq, .of_steps (Steps.trans harr (.one step_inLoop)) harr₂⟩
      | exit id => exact ⟨_, a₁, w₁, ⟨e', L', h1, h2, h3⟩, .pass (x := .inLoop c) rfl (fun _ _ => .inl (by simp)) harr⟩
      | goto l => exact ⟨_, a₁, w₁, ⟨e', L', h1, h2, h3⟩, .pass (x := .inLoop c) rfl (fun _ _ => .inl (by simp)) harr⟩
      | ret => exact ⟨_, a₁, w₁, ⟨e', L', h1, h2, h3⟩, .pass (x := .inLoop c) rfl (fun _ _ => .inl (by simp)) harr⟩
      | panic ch => exact ⟨_, a₁, w₁, ⟨e', L', h1, h2, h3⟩, .pass (x := .inLoop c) rfl (fun _ _ => .inl (by simp)) harr⟩
      | outgrown => exact ⟨_, a₁, w₁, ⟨e', L', h1, h2, h3⟩, .pass (x := .inLoop c) rfl (fun _ _ => .inl (by simp)) harr⟩
  obtain ⟨x, a', w', hq, harr⟩ := key _ s0 rfl h0 a w (ha.sub he) (hl _ hw)
  exact ⟨x, a', w', hq, .of_steps (.one step_loop) harr⟩

end Go.Proofs.YtbbnmgakmcppdaaGreat.Vg
