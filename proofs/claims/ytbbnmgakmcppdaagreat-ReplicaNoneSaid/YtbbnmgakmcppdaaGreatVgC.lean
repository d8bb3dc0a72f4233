/- The engine, part C: functions and calls; arithmetic; reads, writes and new variables. No program is named; nothing is assumed. -/
import Derived.Test.YtbbnmgakmcppdaaGreatVgB
namespace Go.Proofs.YtbbnmgakmcppdaaGreat.Vg
open Go

/-! ### Functions -/
def enumE : Nat → List Value → Env
  | _, [] => []
  | i, v :: r => (i, v) :: enumE (i + 1) r

theorem look_enumE : ∀ {l : List Value} {i t : Nat} {v : Value}, look (enumE i l) t = some v → ∃ j, t = i + j ∧ l[j]? = some v
  | [], _, _, _, h => by cases h
  | x :: r, i, t, v, h => by
    simp only [enumE, look] at h
    cases hb : Nat.beq i t
    · rw [hb] at h
      obtain ⟨j, hj, hl⟩ := look_enumE h
      exact ⟨j + 1, by omega, by simpa using hl⟩
    · rw [hb] at h
      have := Nat.eq_of_beq_eq_true hb
      exact ⟨0, by omega, by simpa using h⟩

theorem agr_enter {n : Nat} {args : List Value} (h : args.length ≤ n) : Agr n ⟨args.toArray ++ Array.replicate (n - args.toArray.size) undef, []⟩ (enumE 0 args) := by
  refine ⟨by simp; omega, rfl, fun t v ht => ?_⟩
  obtain ⟨j, rfl, hl⟩ := look_enumE ht
  have hj : j < args.length := (List.getElem?_eq_some_iff.1 hl).1
  have : args[j] = v := (List.getElem?_eq_some_iff.1 hl).2
  simp [Array.getElem?_append, hj, this]

structure RetV (X : Cx) (fn : Func) (e : Env) (L : List HP) (v : Value) : Prop where
  run : ∀ a w, Agr X.n a e → St X L w → (results fn a.tmps).run X.P w = .ok v w

def Ret (X : Cx) (fn : Func) (R : Value → List HP → Prop) (e : Env) (L : List HP) : Prop :=
  ∃ v L', RetV X fn e L v ∧ Ent X L L' ∧ R v L'

def retQ (X : Cx) (fn : Func) (R : Value → List HP → Prop) : Exit → Env → List HP → Prop
  | .normal, e, L => Ret X fn R e L
  | .ret, e, L => Ret X fn R e L
  | _, _, _ => False

theorem Tri.of {P : Program} {f : FuncId} {fn : Func} {c : Code} {args : List Value} {Fr : Nat → Prop} {w : World} {L : List HP} {R : Value → List HP → Prop} {tab : Tab} (n : Nat)
    (hf : P.funcs[f]? = some fn) (hb : fn.body = some c) (hnm : (fn.name == "runtime.NumGoroutine") = false) (ok : TabOk P tab) (hnt : fn.ntmps = n) (hn : Nat.ble args.length n = true)
    (h : VC ⟨P, tab, ok, n, Fr, w⟩ c (enumE 0 args) L (retQ ⟨P, tab, ok, n, Fr, w⟩ fn R)) : Tri P f args Fr w L R := by
  subst hnt
  replace hn := Nat.le_of_ble_eq_true hn
  refine ⟨⟨fn, hf, by simp [hb], hnm⟩, fun hlow hs => ?_⟩
  refine calls_of_wp hf hb (wp_mono (h _ w (agr_enter hn) ⟨hs, Keep.refl _ _, hlow⟩) fun x a' w' ⟨e', L', h1, h2, h3⟩ => ?_)
  have key : Ret ⟨P, tab, ok, fn.ntmps, Fr, w⟩ fn R e' L' → a'.defers = [] ∧ ∃ v, (results fn a'.tmps).run P w' = .ok v w' ∧ ∃ v1 L1, Ending.returned v = .returned v1 ∧ R v1 L1 ∧ Sat Fr L1 w' ∧ Keep Fr w w' := by
    rintro ⟨v, L1, hr, he, hR⟩
    exact ⟨h1.defers, v, hr.run a' w' h1 h2, v, L1, rfl, hR, (he w' h2).sat, h2.keep⟩
  cases x with
  | normal => exact key h3
  | ret => exact key h3
  | exit id => exact h3.elim
  | goto l => exact h3.elim
  | panic ch => exact h3.elim
  | outgrown => exact h3.elim

theorem Ret.tmp {X : Cx} {fn : Func} {R : Value → List HP → Prop} {e : Env} {L : List HP} (t : Nat) (h : fn.results = #[.tmp t]) {v : Value} (hv : look e t = some v) {L' : List HP} (he : Ent X L L') (hR : R v L') : Ret X fn R e L :=
  ⟨v, L', ⟨fun a w ha _ => by rw [results_tmp h, ha.at_ t v hv]⟩, he, hR⟩
theorem Ret.tmp2 {X : Cx} {fn : Func} {R : Value → List HP → Prop} {e : Env} {L : List HP} (t u : Nat) (h : fn.results = #[.tmp t, .tmp u]) {v x : Value} (hv : look e t = some v) (hx : look e u = some x) {L' : List HP} (he : Ent X L L') (hR : R (.tuple #[v, x]) L') : Ret X fn R e L :=
  ⟨_, L', ⟨fun a w ha _ => by rw [results_tmp2 h, ha.at_ t v hv, ha.at_ u x hx]⟩, he, hR⟩
theorem Ret.void {X : Cx} {fn : Func} {R : Value → List HP → Prop} {e : Env} {L : List HP} (h : fn.results = #[]) {L' : List HP} (he : Ent X L L') (hR : R (.tuple #[]) L') : Ret X fn R e L :=
  ⟨_, L', ⟨fun a w _ _ => results_none h a.tmps X.P w⟩, he, hR⟩

theorem VC.condP {X : Cx} {x : Operand} {b c : Code} {e : Env} {L : List HP} {Q : Exit → Env → List HP → Prop} {p : Prop} {_ : Decidable p} (hx : ev e x = some (.bool (decide p)))
    (ht : p → VC X b e L Q) (hf : ¬ p → VC X c e L Q) : VC X (.cond x b c) e L Q :=
  VC.cond hx (fun h => ht (of_decide_eq_true h)) (fun h => hf (of_decide_eq_false h))
theorem VC.condE {X : Cx} {x : Operand} {b c : Code} {e : Env} {L : List HP} {Q : Exit → Env → List HP → Prop} {i j : Int} (hx : ev e x = some (.bool (i == j)))
    (ht : i = j → VC X b e L Q) (hf : i ≠ j → VC X c e L Q) : VC X (.cond x b c) e L Q :=
  VC.cond hx (fun h => ht (by simpa using h)) (fun h => hf (by simpa using h))
theorem VC.condNE {X : Cx} {x : Operand} {b c : Code} {e : Env} {L : List HP} {Q : Exit → Env → List HP → Prop} {i j : Int} (hx : ev e x = some (.bool (i != j)))
    (ht : i ≠ j → VC X b e L Q) (hf : i = j → VC X c e L Q) : VC X (.cond x b c) e L Q :=
  VC.cond hx (fun h => ht (by simpa using h)) (fun h => hf (by simpa using h))
theorem VC.condN {X : Cx} {x : Operand} {b c : Code} {e : Env} {L : List HP} {Q : Exit → Env → List HP → Prop} {t : Bool} (hx : ev e x = some (.bool (!t)))
    (ht : t = false → VC X b e L Q) (hf : t = true → VC X c e L Q) : VC X (.cond x b c) e L Q :=
  VC.cond hx (fun h => ht (by simpa using h)) (fun h => hf (by simpa using h))
theorem VC.condT {X : Cx} {x : Operand} {b c : Code} {e : Env} {L : List HP} {Q : Exit → Env → List HP → Prop} (hx : ev e x = some (.bool true))
    (ht : VC X b e L Q) : VC X (.cond x b c) e L Q :=
  VC.cond hx (fun _ => ht) (fun h => by cases h)
theorem VC.condF {X : Cx} {x : Operand} {b c : Code} {e : Env} {L : List HP} {Q : Exit → Env → List HP → Prop} (hx : ev e x = some (.bool false))
    (hf : VC X c e L Q) : VC X (.cond x b c) e L Q :=
  VC.cond hx (fun h => by cases h) (fun _ => hf)
theorem Ret.int {X : Cx} {fn : Func} {R : Value → List HP → Prop} {e : Env} {L : List HP} (t : Nat) (h : fn.results = #[.tmp t]) {k : IntKind} {a b : Int} (hv : look e t = some (.int k a)) (hab : a = b) {L' : List HP} (he : Ent X L L') (hR : R (.int k b) L') : Ret X fn R e L := by
  subst hab; exact Ret.tmp t h hv he hR
theorem Ret.bool {X : Cx} {fn : Func} {R : Value → List HP → Prop} {e : Env} {L : List HP} (t : Nat) (h : fn.results = #[.tmp t]) {a b : Bool} (hv : look e t = some (.bool a)) (hab : a = b) {L' : List HP} (he : Ent X L L') (hR : R (.bool b) L') : Ret X fn R e L := by
  subst hab; exact Ret.tmp t h hv he hR
theorem Ent.refl {X : Cx} {L : List HP} : Ent X L L := fun _ h => h

/-- Ways meet: behind the first part some state of these is known. -/
def meetQ (X : Cx) {σ : Type} (E : σ → Env) (H : σ → List HP) (I : σ → Prop) (Q : Exit → Env → List HP → Prop) : Exit → Env → List HP → Prop
  | .normal, e, L => ∃ s, I s ∧ Sub (E s) e ∧ Ent X L (H s)
  | x, e, L => Q x e L
theorem VC.meet {X : Cx} {σ : Type} (E : σ → Env) (H : σ → List HP) (I : σ → Prop) {b c : Code} {e : Env} {L : List HP} {Q : Exit → Env → List HP → Prop}
    (hb : VC X b e L (meetQ X E H I Q)) (hc : ∀ s, I s → VC X c (E s) (H s) Q) : VC X (.seq b c) e L Q := by
  refine VC.seq (hb.mono fun x e' L' h => ?_)
  cases x with
  | normal =>
    obtain ⟨s, hI, hE, hH⟩ := h
    exact ((hc s hI).ent hH).sub hE
  | exit id => exact h
  | goto l => exact h
  | ret => exact h
  | panic ch => exact h
  | outgrown => exact h

/-! ### Calls -/
def SatIn (Fr : Nat → Prop) (L : List HP) (w : World) : Prop := ∃ F, Sats L F w ∧ ∀ b ∈ F, Fr b

theorem run_callFunc {P : Program} {f : FuncId} (h : Callable P f) (vals : Array Value) (w : World) : (callFunc f vals).run P w = .ok (.enter f vals) w := by
  obtain ⟨fn, hf, hb, hn⟩ := h
  unfold callFunc
  rw [Sem.run_bind]
  show Result.andThen (.ok P w) _ = _
  simp [Result.andThen, hf, hb, hn]

theorem run_callOp {P : Program} {f : FuncId} (h : Callable P f) (a : Act) (args : Array Operand) (tys : Array TypeId) (dst : Option Tmp) (ty : TypeId) (pos : String) (after : Array Edge) (guard : Option (Nat × Bool)) (w : World) :
    (execOp a.eval ⟨dst, .call ⟨.value (.func f), args, tys⟩, ty, pos, after, guard⟩).run P w = .ok (.enter f (args.map a.eval)) w := by
  have := run_callFunc h (args.map a.eval) w
  simp [execOp, resolve, Deferred.ofValue, Act.eval, invoke]
  exact this

theorem OpT.call {X : Cx} {f : FuncId} {args : Array Operand} {tys : Array TypeId} {e : Env} {L Lc Lr : List HP} {vals : List Value} {R : Value → List HP → Prop}
    (hargs : evs e args.toList = some vals) (hp : L.Perm (Lc ++ Lr))
    (ht : ∀ Fr' w, (∀ b, X.Fr b → Fr' b) → St X L w → SatIn Fr' Lr w → Tri X.P f vals Fr' w Lc R) :
    OpT X (.call ⟨.value (.func f), args, tys⟩) e L (fun v L' => ∃ L1, R v L1 ∧ L' = L1 ++ Lr) := by
  intro a w ha hw dst ty pos after guard
  obtain ⟨F, hs, hnd, hb⟩ := hw.sat.perm hp
  obtain ⟨Fc, Fl, rfl, hsc, hsl⟩ := Sats.append.1 hs
  have T := ht (fun b => X.Fr b ∨ b ∈ Fl) w (fun b h => .inl h) hw ⟨Fl, hsl, fun b h => .inr h⟩
  have hev : args.map a.eval = vals.toArray := by
    have := ha.evs hargs
    apply Array.toList_inj.1
    simpa using this
  refine .inr (.inr ⟨f, vals.toArray, ?_, ?_⟩)
  · rw [← hev]; exact run_callOp T.callable a args tys dst ty pos after guard w
  · obtain ⟨hnc, hnl, hdis⟩ := List.nodup_append.1 hnd
    refine Calls.mono (T.calls (fun b h => ?_) ⟨Fc, hsc, hnc, fun b h => ⟨fun h' => ?_, (hb b (by simp [h])).2⟩⟩) fun en w' ⟨v, L', h1, h2, h3, h4⟩ => ?_
    · rcases h with h | h
      · exact hw.lowW b h
      · exact (hb b (by simp [h])).2
    · rcases h' with h' | h'
      · exact (hb b (by simp [h])).1 h'
      · exact hdis b h b h' rfl
    · refine ⟨v, L' ++ Lr, h1, ⟨L', h2, rfl⟩, ⟨?_, hw.keep.trans (h4.mono fun b h => .inl h), hw.low⟩⟩
      obtain ⟨G, hG, hGn, hGb⟩ := h3
      refine ⟨G ++ Fl, Sats.append.2 ⟨G, Fl, rfl, hG, hsl.loc fun b h => h4.block b (.inr h)⟩, ?_, ?_⟩
      · exact List.nodup_append.2 ⟨hGn, hnl, fun x hx y hy he => (hGb x hx).1 (.inr (he ▸ hy))⟩
      · intro b h
        rcases List.mem_append.1 h with h | h
        · exact ⟨fun h' => (hGb b h).1 (.inl h'), (hGb b h).2⟩
        · exact ⟨(hb b (by simp [h])).1, Nat.lt_of_lt_of_le (hb b (by simp [h])).2 h4.size⟩

section
variable {X : Cx} {ops : Array Oper} {G : GS} {l : List Oper} {e : Env} {L : List HP} {K : Env → List HP → Prop}
  {dst : Option Tmp} {ty : TypeId} {pos : String} {after : Array Edge} {guard : Option (Nat × Bool)}

/-- Go on: what only computes is run. -/
theorem VO.go (h : runK X.n X.tab ops.toList G l e (fun l' e' => VO X ops G l' e' L K)) : VO X ops G l e L K := runK_sound h

/-- A call that is given no piece. -/
theorem VO.call0 {f : FuncId} {args : Array Operand} {tys : Array TypeId} {vals : List Value} {R : Value → List HP → Prop}
    (hargs : evs e args.toList = some vals) (ht : ∀ Fr' w, Tri X.P f vals Fr' w [] R)
    (hk : ∀ v L1, R v L1 → VO X ops G l (putE dst v e) (L1 ++ L) K)
    (hg : gOn ops G guard = some true := by rfl) (hd : dstOk X.n dst = true := by rfl) (hf : gFree G dst = true := by rfl) :
    VO X ops G (⟨dst, .call ⟨.value (.func f), args, tys⟩, ty, pos, after, guard⟩ :: l) e L K :=
  VO.op hg hd hf (OpT.call hargs (Lc := []) (Lr := L) (.refl _) fun Fr' w _ _ _ => ht Fr' w) fun v L' ⟨L1, h1, h2⟩ => by subst h2; exact hk v L1 h1

/-- A call of a function that computes a value and nothing else. -/
theorem VO.callV {f : FuncId} {args : Array Operand} {tys : Array TypeId} {vals : List Value} {u : Value}
    (ht : ∀ Fr' w, Tri X.P f vals Fr' w [] (fun v L => v = u ∧ L = [])) (hargs : evs e args.toList = some vals)
    (hk : VO X ops G l (putE dst u e) L K)
    (hg : gOn ops G guard = some true := by rfl) (hd : dstOk X.n dst = true := by rfl) (hf : gFree G dst = true := by rfl) :
    VO X ops G (⟨dst, .call ⟨.value (.func f), args, tys⟩, ty, pos, after, guard⟩ :: l) e L K :=
  VO.call0 hargs ht (fun v L1 ⟨h1, h2⟩ => by subst h1; subst h2; exact hk) hg hd hf

/-- A guard whose answer is known. -/
theorem VO.yes (d : Nat) {b : Bool} (c : Bool) (hb : look e d = some (.bool b)) (hc : b = c) (h : VO X ops ((d, c) :: G) l ((d, .bool c) :: e) L K) (hd : Nat.blt d X.n = true := by rfl) : VO X ops G l e L K := by
  subst hc
  refine VO.split d hb hd (fun h' => ?_) (fun h' => ?_)
  · subst h'; exact h
  · subst h'; exact h

theorem VO.light {op : Op} {v : Value} (h : Light X op e v) (hk : VO X ops G l (putE dst v e) L K)
    (hg : gOn ops G guard = some true := by rfl) (hd : dstOk X.n dst = true := by rfl) (hf : gFree G dst = true := by rfl) : VO X ops G (⟨dst, op, ty, pos, after, guard⟩ :: l) e L K :=
  VO.op hg hd hf h.opT (fun _ _ ⟨h1, h2⟩ => by subst h1; subst h2; exact hk)

/-- Sums, differences, products that stay within their kind. -/
theorem VO.arith {op : BinOp} {xt yt : TypeId} {x y : Operand} {k : IntKind} {a b : Int} (z : Int)
    (hx : ev e x = some (.int k a)) (hy : ev e y = some (.int k b))
    (hz : (match op with | .add => k.wrap (a + b) = z | .sub => k.wrap (a - b) = z | .mul => k.wrap (a * b) = z | _ => False))
    (hk : VO X ops G l (putE dst (.int k z) e) L K)
    (hg : gOn ops G guard = some true := by rfl) (hd : dstOk X.n dst = true := by rfl) (hf : gFree G dst = true := by rfl) :
    VO X ops G (⟨dst, .binOp op xt x y yt, ty, pos, after, guard⟩ :: l) e L K := by
  refine VO.op (M := fun v L' => v = .int k z ∧ L' = L) hg hd hf ?_ (fun v L' ⟨h1, h2⟩ => by subst h1; subst h2; exact hk)
  intro a' w ha hw dst ty pos after guard
  refine .inl ⟨_, w, L, ?_, ⟨rfl, rfl⟩, hw⟩
  cases op <;> simp only at hz
  case add => simp [execOp, ha.ev hx, ha.ev hy, eqGuard, binOp, Op.intArith, hz]
  case sub => simp [execOp, ha.ev hx, ha.ev hy, eqGuard, binOp, Op.intArith, hz]
  case mul => simp [execOp, ha.ev hx, ha.ev hy, eqGuard, binOp, Op.intArith, hz]
end

theorem i64_in (n : Int) (h1 : -9223372036854775808 ≤ n) (h2 : n ≤ 9223372036854775807) : IntKind.i64.wrap n = n := IntWalk.i64_in n ⟨h1, h2⟩

section
variable {X : Cx} {ops : Array Oper} {G : GS} {l : List Oper} {e : Env} {L : List HP} {K : Env → List HP → Prop}
  {dst : Option Tmp} {ty : TypeId} {pos : String} {after : Array Edge} {guard : Option (Nat × Bool)}
theorem VO.add {xt yt : TypeId} {x y : Operand} {a b : Int} (hx : ev e x = some (.int .i64 a)) (hy : ev e y = some (.int .i64 b)) (h1 : -9223372036854775808 ≤ a + b) (h2 : a + b ≤ 9223372036854775807)
    (hk : VO X ops G l (putE dst (.int .i64 (a + b)) e) L K)
    (hg : gOn ops G guard = some true := by rfl) (hd : dstOk X.n dst = true := by rfl) (hf : gFree G dst = true := by rfl) :
    VO X ops G (⟨dst, .binOp .add xt x y yt, ty, pos, after, guard⟩ :: l) e L K := VO.arith (a + b) hx hy (i64_in _ h1 h2) hk hg hd hf
theorem VO.sub' {xt yt : TypeId} {x y : Operand} {a b : Int} (hx : ev e x = some (.int .i64 a)) (hy : ev e y = some (.int .i64 b)) (h1 : -9223372036854775808 ≤ a - b) (h2 : a - b ≤ 9223372036854775807)
    (hk : VO X ops G l (putE dst (.int .i64 (a - b)) e) L K)
    (hg : gOn ops G guard = some true := by rfl) (hd : dstOk X.n dst = true := by rfl) (hf : gFree G dst = true := by rfl) :
    VO X ops G (⟨dst, .binOp .sub xt x y yt, ty, pos, after, guard⟩ :: l) e L K := VO.arith (a - b) hx hy (i64_in _ h1 h2) hk hg hd hf
theorem VO.mul {xt yt : TypeId} {x y : Operand} {a b : Int} (hx : ev e x = some (.int .i64 a)) (hy : ev e y = some (.int .i64 b)) (h1 : -9223372036854775808 ≤ a * b) (h2 : a * b ≤ 9223372036854775807)
    (hk : VO X ops G l (putE dst (.int .i64 (a * b)) e) L K)
    (hg : gOn ops G guard = some true := by rfl) (hd : dstOk X.n dst = true := by rfl) (hf : gFree G dst = true := by rfl) :
    VO X ops G (⟨dst, .binOp .mul xt x y yt, ty, pos, after, guard⟩ :: l) e L K := VO.arith (a * b) hx hy (i64_in _ h1 h2) hk hg hd hf

/-- A conversion between kinds of integers: what it wraps to. -/
theorem VO.conv {s d : TypeId} {x : Operand} {j : IntKind} {a : Int} {ts td : TI} {k : IntKind} (z : Int) (hx : ev e x = some (.int j a)) (hs : tyLook X.tab s = some ts) (hd' : tyLook X.tab d = some td) (hsu : ts.und = .int j) (hdu : td.und = .int k)
    (hz : k.wrap a = z) (hk : VO X ops G l (putE dst (.int k z) e) L K)
    (hg : gOn ops G guard = some true := by rfl) (hd : dstOk X.n dst = true := by rfl) (hf : gFree G dst = true := by rfl) :
    VO X ops G (⟨dst, .convert s d x, ty, pos, after, guard⟩ :: l) e L K := by
  have key : ∀ {t : Nat} {ti : TI} {k : IntKind}, tyLook X.tab t = some ti → ti.und = .int k → X.P.underlying t = some (.int k) := fun {t ti k} h hu => by
    have := (X.ok.look h).und
    rw [hu] at this
    unfold undOf at this
    split at this <;> simp_all
  have h1 := key hs hsu
  have h2 := key hd' hdu
  refine VO.op (M := fun v L' => v = .int k z ∧ L' = L) hg hd hf ?_ (fun v L' ⟨h1, h2⟩ => by subst h1; subst h2; exact hk)
  intro a' w ha hw dst ty pos after guard
  refine .inl ⟨_, w, L, ?_, ⟨rfl, rfl⟩, hw⟩
  simp [execOp, ha.ev hx, convert, run_underlying h1, run_underlying h2, Conv.intToInt, hz]
end

/-- A shift to the left by what is not negative. -/
theorem light_shl {X : Cx} {e : Env} {xt yt : TypeId} {x y : Operand} {a b : Int} (z : Int) (hx : ev e x = some (.int .i64 a)) (hy : ev e y = some (.int .i64 b)) (hb : 0 ≤ b)
    (hb' : b < 64) (hz : IntKind.i64.wrap (a * 2 ^ b.toNat) = z) : Light X (.binOp .shl xt x y yt) e (.int .i64 z) := by
  intro a' ha dst ty pos after guard w
  simp [execOp, ha.ev hx, ha.ev hy, eqGuard, binOp]
  exact hz
end Go.Proofs.YtbbnmgakmcppdaaGreat.Vg
