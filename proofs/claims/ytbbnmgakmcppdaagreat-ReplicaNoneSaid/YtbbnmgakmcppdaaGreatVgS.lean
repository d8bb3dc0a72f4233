/- The engine, part S: functions of the library that the model knows by name; texts that grow by pieces; contracts of the shelf. No program is named; nothing is assumed. -/
import Derived.Test.YtbbnmgakmcppdaaGreatVgR
import Derived.Test.YtbbnmgakmcppdaaGreatVgP
import Derived.Laws.LoneSync
import Derived.Lib.Builder
import Derived.Lib.ItoaMem
import Derived.Lib.LaidTab
import Derived.Lib.Join
namespace Go.Proofs.YtbbnmgakmcppdaaGreat.Vg
open Go
set_option linter.unusedVariables false

/-! ### Functions without a body -/
structure Ext (P : Program) (f : FuncId) (fn : Func) (g : Array Value → Sem Value) : Prop where
  at_ : P.funcs[f]? = some fn
  nm : (fn.name == "runtime.NumGoroutine") = false
  nb : fn.body.isNone = true
  nn : Extern.findNext fn = none
  ex : Extern.find fn = some g

theorem exec_call (a : Act) (f : FuncId) (args : Array Operand) (tys : Array TypeId) (dst : Option Tmp) (ty : TypeId) (pos : String) (after : Array Edge) (guard : Option (Nat × Bool)) :
    execOp a.eval ⟨dst, .call ⟨.value (.func f), args, tys⟩, ty, pos, after, guard⟩ = callFunc f (args.map a.eval) := by
  have ef : a.eval (.func f) = .func (.func f) #[] #[] := rfl
  unfold execOp
  simp [resolve, Deferred.ofValue, invoke, ef]

section
variable {X : Cx} {e : Env} {L : List HP}
theorem OpT.aLoad {f : FuncId} {fn : Func} {x : Operand} {tys : Array TypeId} {b off : Nat} {n : Int} (h : Ext X.P f fn (Extern.Atomic.loadT (.int .i64))) (hx : ev e x = some (.pointer (some ⟨b, off, none⟩)))
    (hr : ∀ w, St X L w → w.cell? ⟨b, off, none⟩ = some (.int .i64 n)) : OpT X (.call ⟨.value (.func f), #[x], tys⟩) e L (fun v L' => v = .int .i64 n ∧ L' = L) := fun a w ha hw dst ty pos after guard => by
  refine .inl ⟨_, w, L, ?_, ⟨rfl, rfl⟩, hw⟩
  rw [exec_call]
  have : (#[x] : Array Operand).map a.eval = #[.pointer (some ⟨b, off, none⟩)] := by simp [ha.ev hx]
  rw [this]
  exact run_call_load h.at_ h.nm h.nb h.nn .i64 h.ex (hr w hw)
theorem OpT.aCas {f : FuncId} {fn : Func} {x y z : Operand} {tys : Array TypeId} {b off t : Nat} {n m : Int} {cs : List Value} (i : Nat) (h : Ext X.P f fn (Extern.Atomic.casT (.int .i64))) (hx : ev e x = some (.pointer (some ⟨b, off, none⟩)))
    (hy : ev e y = some (.int .i64 n)) (hz : ev e z = some (.int .i64 m)) (hL : L[i]? = some (pt b cs t)) (hc : cs[off]? = some (.int .i64 n)) :
    OpT X (.call ⟨.value (.func f), #[x, y, z], tys⟩) e L (fun v L' => v = .bool true ∧ L' = L.set i (pt b (cs.set off (.int .i64 m)) t)) := fun a w ha hw dst ty pos after guard => by
  obtain ⟨h0, _⟩ := hw.atPt hL
  refine .inl ⟨_, _, _, ?_, ⟨rfl, rfl⟩, hw.set hL⟩
  rw [exec_call]
  have : (#[x, y, z] : Array Operand).map a.eval = #[.pointer (some ⟨b, off, none⟩), .int .i64 n, .int .i64 m] := by simp [ha.ev hx, ha.ev hy, ha.ev hz]
  rw [this, ← setCell_setBlk h0]
  exact run_call_cas_hit h.at_ h.nm h.nb h.nn .i64 h.ex (by rw [cell_of_row w b off cs.toArray t (0, 0) h0]; simpa using hc) (frozen_of_row w b off cs.toArray t h0)
theorem OpT.aStore {f : FuncId} {fn : Func} {x y : Operand} {tys : Array TypeId} {b off t : Nat} {m : Int} {u : Value} {cs : List Value} (i : Nat) (h : Ext X.P f fn Extern.Atomic.storeT) (hx : ev e x = some (.pointer (some ⟨b, off, none⟩)))
    (hy : ev e y = some (.int .i64 m)) (hL : L[i]? = some (pt b cs t)) (hc : cs[off]? = some u) :
    OpT X (.call ⟨.value (.func f), #[x, y], tys⟩) e L (fun v L' => v = .tuple #[] ∧ L' = L.set i (pt b (cs.set off (.int .i64 m)) t)) := fun a w ha hw dst ty pos after guard => by
  obtain ⟨h0, _⟩ := hw.atPt hL
  refine .inl ⟨_, _, _, ?_, ⟨rfl, rfl⟩, hw.set hL⟩
  rw [exec_call]
  have : (#[x, y] : Array Operand).map a.eval = #[.pointer (some ⟨b, off, none⟩), .int .i64 m] := by simp [ha.ev hx, ha.ev hy]
  rw [this, ← setCell_setBlk h0]
  exact run_call_store h.at_ h.nm h.nb h.nn h.ex (by rw [cell_of_row w b off cs.toArray t (0, 0) h0]; simpa using hc) (frozen_of_row w b off cs.toArray t h0)
end

/-! ### Contracts that leave a world behind of which all below is as it was -/
theorem keep_below {Fr : Nat → Prop} {B : Nat} {w w' : World} (hF : ∀ b, Fr b → b < B) (h : RowKit.Below B w w') : Keep Fr w w' := ⟨h.os, h.tape, h.output, h.size, fun b hb => h.block b (hF b hb)⟩
/-- A function that lays new blocks alone. -/
theorem Tri.of_below {P : Program} {f : FuncId} {args : List Value} {Fr : Nat → Prop} {w : World} {u : Value} (hc : Callable P f) (h : Calls P f args.toArray w fun e w' => e = .returned u ∧ RowKit.Below w.heap.size w w') :
    Tri P f args Fr w [] (fun v L => v = u ∧ L = []) :=
  ⟨hc, fun hl _ => Calls.mono h fun e w' ⟨h1, h2⟩ => ⟨u, [], h1, ⟨rfl, rfl⟩, Sat.nil, keep_below hl h2⟩⟩
/-- A function that grows the heap. -/
theorem Tri.of_grow {P : Program} {f : FuncId} {args : List Value} {Fr : Nat → Prop} {w : World} {u : Value} (hc : Callable P f) (h : Calls P f args.toArray w fun e w' => e = .returned u ∧ ∃ k os, w' = Sort.grow (w.drewN k) os) :
    Tri P f args Fr w [] (fun v L => v = u ∧ L = []) :=
  Tri.of_below hc (Calls.mono h fun e w' ⟨h1, k, os, h2⟩ => ⟨h1, by
    subst h2
    exact ⟨rfl, rfl, rfl, by show w.heap.size ≤ (w.heap ++ os).size; rw [Array.size_append]; omega, fun j hj => by
      show (w.heap ++ os)[j]? = w.heap[j]?
      rw [Array.getElem?_append, if_pos hj]⟩⟩)

/-- A table of the library's, as long as its block stays. -/
structure TabIn (P : Program) (Fr : Nat → Prop) (w : World) (nm : String) (k : IntKind) (zs : List Int) : Prop where
  fr : ∃ g, P.globalNamed nm = some g ∧ Fr g
  is : Lib.TabIs P w nm k zs
theorem TabIn.keep {P : Program} {Fr Fr' : Nat → Prop} {w w' : World} {nm : String} {k : IntKind} {zs : List Int} (h : TabIn P Fr w nm k zs) (hF : ∀ b, Fr b → Fr' b) (hk : Keep Fr w w') : TabIn P Fr' w' nm k zs := by
  obtain ⟨⟨g, hg, hf⟩, hi⟩ := h
  refine ⟨⟨g, hg, hF g hf⟩, ?_⟩
  unfold Lib.TabIs World.var? at hi ⊢
  rw [hg] at hi ⊢
  simp only [Option.bind_some] at hi ⊢
  rw [hk.block g hf]; exact hi
theorem TabIn.st {X : Cx} {L : List HP} {nm : String} {k : IntKind} {zs : List Int} (h : TabIn X.P X.Fr X.w0 nm k zs) {Fr' : Nat → Prop} {w : World} (hF : ∀ b, X.Fr b → Fr' b) (hw : St X L w) : TabIn X.P Fr' w nm k zs := h.keep hF hw.keep

/-! ### A text that grows (strings.Builder) -/
def bldIds (b : Nat) (v : Value) : List Nat := b :: v.ownBlock.toList
theorem ownsRow_loc {w w' : World} {B e n : Nat} {v : Value} {xs : List Value} (h : w.ownsRow B e 1 v n xs) (hb : ∀ g, v.ownBlock = some g → w'.heap[g]? = w.heap[g]?) : w'.ownsRow B e 1 v n xs := by
  refine ⟨h.1, h.2.imp id ?_⟩
  rintro ⟨g, cap, cur, rfl, h1, h2, h3⟩
  exact ⟨g, cap, cur, rfl, h1, (hb g rfl).trans h2, h3⟩
def bldH (T el B b : Nat) (bs : List Value) : HP :=
  ⟨fun ids w => ∃ (v : Value) (p : Option Addr), (p = none ∨ p = some ⟨b, 0, none⟩) ∧ ids = bldIds b v ∧ B ≤ b ∧ w.heap[b]? = some (.cells #[.pointer p, v] T (0, 0)) ∧ w.ownsRow B el 1 v bs.length bs ∧ v.ownBlock ≠ some b,
   fun ids w w' hb ⟨v, p, h1, h2, h3, h4, h5, h6⟩ => ⟨v, p, h1, h2, h3, (hb b (by simp [h2, bldIds])).trans h4, ownsRow_loc h5 (fun g hg => hb g (by simp [h2, bldIds, hg])), h6⟩⟩
theorem bld_is {T el B b : Nat} {bs : List Value} {Fr : Nat → Prop} {w : World} (h : Sat Fr [bldH T el B b bs] w) : Lib.IsBuilder T el B b bs w ∧ B ≤ w.heap.size := by
  obtain ⟨F, ⟨ids, G, hF, ⟨v, p, h1, h2, h3, h4, h5, h6⟩, hG⟩, hn, hb⟩ := h
  have hlt : b < w.heap.size := (Array.getElem?_eq_some_iff.1 h4).1
  refine ⟨?_, by omega⟩
  rcases h1 with rfl | rfl
  · exact .inl ⟨h3, v, h4, h5, h6⟩
  · exact .inr ⟨h3, v, h4, h5, h6⟩
theorem bld_of {T el B b : Nat} {bs : List Value} {Fr : Nat → Prop} {w : World} (hF : ∀ x, Fr x → x < B) (h : Lib.BuilderAt T el B b (.pointer (some ⟨b, 0, none⟩)) bs w) : Sat Fr [bldH T el B b bs] w := by
  obtain ⟨hB, v, h4, h5, h6⟩ := h
  have hlt : b < w.heap.size := (Array.getElem?_eq_some_iff.1 h4).1
  refine ⟨bldIds b v, ⟨bldIds b v, [], by simp, ⟨v, _, .inr rfl, rfl, hB, h4, h5, h6⟩, rfl⟩, ?_, ?_⟩
  · unfold bldIds
    cases hv : v.ownBlock with
    | none => simp
    | some g =>
      simp only [Option.toList_some, List.nodup_cons, List.mem_singleton, List.not_mem_nil, not_false_eq_true, List.nodup_nil, and_self, and_true]
      intro e; exact h6 (by rw [hv, e])
  · intro x hx
    unfold bldIds at hx
    rcases List.mem_cons.1 hx with rfl | hx
    · exact ⟨fun h => by have := hF _ h; omega, hlt⟩
    · have hv : v.ownBlock = some x := by simpa using hx
      obtain ⟨h7, h8⟩ := h5.lt x hv
      exact ⟨fun h => by have := hF _ h; omega, h8⟩
/-- A builder that nothing was written into. -/
theorem Imp.bld {L M : List HP} {T el B b : Nat} (hB : B ≤ b) (hT : T ≠ el) (h : Imp L (pt b [.pointer none, .slice none 0 0] T :: M)) : Imp L (bldH T el B b [] :: M) := fun w F hs hn => by
  obtain ⟨F', ⟨G, K, rfl, ⟨rfl, hG⟩, hK⟩, h2, h3⟩ := h w F hs hn
  exact ⟨[b] ++ K, ⟨[b], K, rfl, ⟨.slice none 0 0, none, .inl rfl, rfl, hB, hG, ⟨by simp, .inl ⟨rfl, rfl⟩⟩, by simp [Value.ownBlock]⟩, hK⟩, h2, h3⟩

section
variable {X : Cx} {ops : Array Oper} {G : GS} {l : List Oper} {pl : Plan} {S : Pend} {e : Env} {L : List HP} {K : Env → List HP → Prop}
  {dst : Option Tmp} {ty : TypeId} {pos : String} {after : Array Edge} {guard : Option (Nat × Bool)}

/-- A call that is given all pieces; what else there is stays as it was from the start. -/
theorem OpT.callB {f : FuncId} {args : Array Operand} {tys : Array TypeId} {vals : List Value} {R : Value → List HP → Prop}
    (ht : ∀ w, St X L w → Tri X.P f vals X.Fr w L R) (hargs : evs e args.toList = some vals) : OpT X (.call ⟨.value (.func f), args, tys⟩) e L R := by
  intro a w ha hw dst ty pos after guard
  have T := ht w hw
  have hev : args.map a.eval = vals.toArray := by
    have := ha.evs hargs
    apply Array.toList_inj.1
    simpa using this
  refine .inr (.inr ⟨f, vals.toArray, ?_, ?_⟩)
  · rw [← hev]; exact run_callOp T.callable a args tys dst ty pos after guard w
  · exact Calls.mono (T.calls hw.lowW hw.sat) fun en w' ⟨v, L', h1, h2, h3, h4⟩ => ⟨v, L', h1, h2, h3, hw.keep.trans h4, hw.low⟩
theorem VO.callB {f : FuncId} {args : Array Operand} {tys : Array TypeId} {vals : List Value} {R : Value → List HP → Prop}
    (ht : ∀ w, St X L w → Tri X.P f vals X.Fr w L R) (hargs : evs e args.toList = some vals) (hk : ∀ v L', R v L' → VO X ops G l (putE dst v e) L' K)
    (hg : gOn ops G guard = some true := by rfl) (hd : dstOk X.n dst = true := by rfl) (hf : gFree G dst = true := by rfl) :
    VO X ops G (⟨dst, .call ⟨.value (.func f), args, tys⟩, ty, pos, after, guard⟩ :: l) e L K := VO.op hg hd hf (OpT.callB ht hargs) hk
theorem VO.callBV {u : Value} {L1 : List HP} {f : FuncId} {args : Array Operand} {tys : Array TypeId} {vals : List Value}
    (ht : ∀ w, St X L w → Tri X.P f vals X.Fr w L (fun v L => v = u ∧ L = L1)) (hargs : evs e args.toList = some vals) (hk : VO X ops G l (putE dst u e) L1 K)
    (hg : gOn ops G guard = some true := by rfl) (hd : dstOk X.n dst = true := by rfl) (hf : gFree G dst = true := by rfl) :
    VO X ops G (⟨dst, .call ⟨.value (.func f), args, tys⟩, ty, pos, after, guard⟩ :: l) e L K :=
  VO.callB ht hargs (fun v L' ⟨h1, h2⟩ => by subst h1; subst h2; exact hk) hg hd hf
/-- A new variable, and that it lies behind all that was there. -/
theorem VO.allocB {T : TypeId} {ti : TI} (hT : tyLook X.tab T = some ti) (hk : ∀ b, X.w0.heap.size ≤ b → VO X ops G l (putE dst (.pointer (some ⟨b, 0, none⟩)) e) (pt b ti.zs T :: L) K)
    (hg : gOn ops G guard = some true := by rfl) (hd : dstOk X.n dst = true := by rfl) (hf : gFree G dst = true := by rfl) :
    VO X ops G (⟨dst, .alloc T, ty, pos, after, guard⟩ :: l) e L K := by
  refine VO.op (M := fun u L' => ∃ b, X.w0.heap.size ≤ b ∧ u = .pointer (some ⟨b, 0, none⟩) ∧ L' = pt b ti.zs T :: L) hg hd hf ?_ (fun _ _ ⟨b, h0, h1, h2⟩ => by subst h1; subst h2; exact hk b h0)
  intro a w _ hw dst ty pos after guard
  refine .inl ⟨.pointer (some ⟨w.heap.size, 0, none⟩), w.alloc (.cells ti.zs.toArray T), pt w.heap.size ti.zs T :: L, ?_, ⟨w.heap.size, hw.keep.size, rfl, rfl⟩, hw.alloc ti.zs T⟩
  have h := X.ok.look hT
  simp [execOp, Instr.alloc, run_zero h, newVar, newRow, newObj, Sem.run, h.zero]

end
end Go.Proofs.YtbbnmgakmcppdaaGreat.Vg
