/- Texts of the proof, put together and shortened. No condition. -/
import Derived.Test.YtkpambabfalaiaaGreatDoorZt2
set_option maxRecDepth 100000
set_option maxHeartbeats 16000000
set_option linter.unusedVariables false
set_option linter.unusedSectionVars false
set_option linter.unusedSimpArgs false
namespace Go.Proofs.YtkpambabfalaiaaGreatDoor
variable (Fr : Nat → Prop) (w : World)
namespace Vg
open Go Go.ChangeShapes Go.WideShapes Go.ChangeAt Go.RowKit
theorem law_returnsS {H : Type} {enc : TypeId × Value → H} {C : Checked} {os : Os} {f : FuncId} {fn : Func} {s : ChangeSpec} {conds : List PathCond} {laid : List (String × DataW Unit)}
  (own : ownKnob C.prog.godebug = none) (started : os.Started) (noInit : C.prog.inits.idxOf? f = none) (hfn : C.prog.funcs[f]? = some fn)
  (witness : ∃ (w : World) (tape : Tape) (i : Input), w.os = os ∧ (w.forCall tape i).Shaped C.prog ∧ i.vars = [] ∧ Input.okWide C.prog (w.forCall tape i) .any w.heap.size f i ∧
   ((s.pre enc C.prog fn conds false (w.forCall tape i).memory i.args ∧ laidMetH C.prog laid (w.forCall tape i).memory) ∧ sizedMet enc C.prog fn (OpenSpec.ofChange s) false (w.forCall tape i).memory i.args) ∧
   ({} : Assume).holds C.prog (lone (Frame.enter C.prog f i.args .normal) [] (w.forCall tape i)))
  (hl : laidOutB C.prog = true) (hts : ∀ t ∈ fn.params.toList, C.prog.readableRec t = true ∧ t < C.prog.types.size)
  (hv : s.vars = []) {tb : TypeId} (hres : fn.resultTypes = #[tb]) (hbool : C.prog.underlying tb = some .bool)
  (hs : ∀ ds : List (DataW H), ds.length = fn.params.toList.length → s.fn H (ds ++ []) = { results := [.lit (.bool true)], args := ds })
  (walk : ∀ (W : World) (base : Nat) (args : Array Value) (ds : List (DataW H)) (ps : List MemPlace), laidMetH C.prog laid W → W.ShapedOpen C.prog →
   (∀ (j : Nat) t v, fn.params[j]? = some t → args[j]? = some v → Value.okWide C.prog W .any base t v) →
   DataW.TrodAll enc C.prog W 0 (fun _ => true) true fn.params.toList args.toList ds ps → W.noneFrozen ps →
   (DataW.weightsEach C.prog fn.params.toList ds).all (· ≤ reachBytes) = true →
   Tri C.prog f args.toList (fun b => b < W.heap.size) W [] (fun v _ => v = .bool true)) :
  ReturnsInHanded {} C os f .any (fun w args => (s.pre enc C.prog fn conds false w args ∧ laidMetH C.prog laid w) ∧ sizedMet enc C.prog fn (OpenSpec.ofChange s) false w args) (s.post enc C.prog fn false true false false) := by
 refine returnsInHanded_of_calls own started noInit witness ?_
 intro w tape i _ hsh _ hok hpre _
 obtain ⟨_, _, _, fn', hfn', _, _, _, _, hval⟩ := hok
 obtain rfl : fn' = fn := Option.some.inj (hfn'.symm.trans hfn)
 obtain ⟨⟨⟨ds, gs, before, hw, hc⟩, hL⟩, hz⟩ := hpre
 have hwt : (DataW.weightsEach C.prog (fn'.params.toList ++ s.plain.varTypes C.prog) (ds ++ gs)).all (· ≤ reachBytes) = true := hz.weights hw
 have hW := DataW.Whole.of_heap (w' := w.forCall tape i) (by rfl) hw
 have hL : laidMetH C.prog laid (w.forCall tape i) := hL.of_heap (by rfl)
 generalize w.forCall tape i = W at hW hL hval hsh ⊢
 have hW2 := hW
 obtain ⟨p, q, hA, hV, rfl, hfz, _⟩ := hW2
 rw [hv] at hV
 obtain ⟨rfl, rfl⟩ := trodVars_none hV
 have hvt : s.plain.varTypes C.prog = [] := by simp [ChangeSpec.plain, hv, DataSpec.varTypes]
 rw [hvt] at hwt
 simp only [List.append_nil] at hwt hfz
 have T := walk W w.heap.size i.args ds p hL hsh hval hA hfz hwt
 have := T.calls (fun _ h => h) Sat.nil
 simp only [Array.toArray_toList] at this
 refine Calls.mono this fun e W' ⟨v, L', he, h1, _, hk⟩ => ?_
 subst he; subst h1
 exact ChangeSpec.post_blind (law_post hl hts hv hres hbool hs hW hk.below)
end Vg
namespace Vg
open Go Go.ChangeShapes Go.WideShapes Go.ChangeAt Go.RowKit
section
variable {H : Type} (enc : TypeId × Value → H) (P : Program) (w : World) (base : Nat) (spare : Nat → Bool) (held : Bool)
def Leaf (t : TypeId) (v : Value) : Prop := ∃ fuel x, DataW.trod enc P w base spare held fuel t [v] = some x
def flatFs (rec : TypeId → Option (List TypeId)) : List Field → Nat → Option (List TypeId)
 | [], _ => some []
 | f :: fs, off => if f.offset = off then match rec f.type with
   | some l => if P.cellsOf f.type = l.length then (flatFs rec fs (off + l.length)).map (l ++ ·) else none
   | none => none
  else none
def flatT : Nat → TypeId → Option (List TypeId)
 | 0, _ => none
 | n + 1, t => match P.underlying t with
  | some (.struct fs) => match flatFs P (flatT n) fs.toList 0 with
   | some l => if P.cellsOf t = l.length then some l else none
   | none => none
  | some (.int _) => some [t]
  | some .bool => some [t]
  | some .string => some [t]
  | some (.slice _) => some [t]
  | some (.pointer _) => some [t]
  | _ => none
end
section
variable {H : Type} {enc : TypeId × Value → H} {P : Program} {w : World} {base : Nat} {spare : Nat → Bool} {held : Bool}
theorem Leaf.int {t : TypeId} {v : Value} {k : IntKind} (h : Leaf enc P w base spare held t v) (ht : P.underlying t = some (.int k)) : ∃ n, v = .int k n ∧ (Lit.int k n).wf = true := by
 obtain ⟨fuel, x, h⟩ := h
 obtain ⟨n, e, _, hw⟩ := DataW.trod_int ht h
 exact ⟨n, (List.cons.inj e).1, hw⟩
theorem Leaf.str {t : TypeId} {v : Value} (h : Leaf enc P w base spare held t v) (ht : P.underlying t = some .string) : ∃ s, v = .string s ∧ s.size ≤ maxLen := by
 obtain ⟨fuel, x, h⟩ := h
 obtain ⟨n, e, _, hs⟩ := DataW.trod_string ht h
 exact ⟨n, (List.cons.inj e).1, hs⟩
theorem flatFs_ok {rec : TypeId → Option (List TypeId)} {cs : List Value} {n : Nat}
  (hrec : ∀ (t : TypeId) (ls : List TypeId), rec t = some ls → ∀ (cs : List Value) x, DataW.trod enc P w base spare held n t cs = some x → cs.length = ls.length ∧ ∀ (i : Nat) (v : Value) (u : TypeId), cs[i]? = some v → ls[i]? = some u → Leaf enc P w base spare held u v) :
  ∀ (fs : List Field) (off : Nat) (ls : List TypeId), flatFs P rec fs off = some ls → (∀ f ∈ fs, ∃ y, DataW.trod enc P w base spare held n f.type ((cs.drop f.offset).take (P.cellsOf f.type)) = some y) →
   ∀ (i : Nat) (v : Value) (u : TypeId), cs[off + i]? = some v → ls[i]? = some u → Leaf enc P w base spare held u v
 | [], off, ls, h, _, i, v, u, _, hu => by
  obtain rfl : ls = [] := by simpa [flatFs] using h.symm
  simp at hu
 | f :: fs, off, ls, h, hf, i, v, u, hv, hu => by
  simp only [flatFs] at h
  split at h
  ·rename_i hoff
   split at h
   ·rename_i l hl
    split at h
    ·rename_i hc
     cases hr : flatFs P rec fs (off + l.length) with
     | none => rw [hr] at h; cases h
     | some ls' =>
      rw [hr] at h
      obtain rfl : l ++ ls' = ls := by simpa using h
      obtain ⟨y, hy⟩ := hf f yb
      obtain ⟨h1, h2⟩ := hrec f.type l hl _ y hy
      by_cases hi : i < l.length
      ·refine h2 i v u ?_ (by rwa [List.getElem?_append_left hi] at hu)
       rw [List.getElem?_take, if_pos yf, List.getElem?_drop, hoff]; exact hv
      ·rw [List.getElem?_append_right yf] at hu
       refine flatFs_ok hrec fs (off + l.length) ls' hr (fun g hg => hf g (by simp [hg])) (i - l.length) v u ?_ hu
       rw [← hv]; congr 1; omega
    ·cases h
   ·cases h
  ·cases h
theorem flatT_ok : ∀ (n : Nat) (t : TypeId) (ls : List TypeId), flatT P n t = some ls → ∀ (fuel : Nat) (cs : List Value) x, DataW.trod enc P w base spare held fuel t cs = some x →
  cs.length = ls.length ∧ ∀ (i : Nat) (v : Value) (u : TypeId), cs[i]? = some v → ls[i]? = some u → Leaf enc P w base spare held u v
 | 0, t, ls, h, _, _, _, _ => by simp [flatT] at h
 | n + 1, t, ls, h, fuel, cs, x, hx => by
  have one : ∀ v, cs = [v] → ls = [t] → cs.length = ls.length ∧ ∀ (i : Nat) (v : Value) (u : TypeId), cs[i]? = some v → ls[i]? = some u → Leaf enc P w base spare held u v := by
   intro v h1 h2
   subst h1; subst h2
   refine ⟨rfl, fun i v' u hv hu => ?_⟩
   match i, hv, hu with
   | 0, hv, hu =>
    obtain rfl := Option.some.inj hv
    obtain rfl := Option.some.inj hu
    exact ⟨fuel, x, hx⟩
   | i + 1, hv, _ => cases hv
  simp only [flatT] at h
  split at h
  ·rename_i fs ht
   cases hr : flatFs P (flatT P n) fs.toList 0 with
   | none => rw [hr] at h; cases h
   | some l =>
    rw [hr] at h
    dsimp only at h
    split at h
    ·rename_i hc
     obtain rfl := Option.some.inj h
     obtain ⟨xs, m, _, _, hl, hlen, hfs⟩ := DataW.trod_struct ht hx
     refine ⟨hl.trans hc, fun i v u hv hu => ?_⟩
     refine flatFs_ok (n := m) (cs := cs) (fun t ls h1 cs x h2 => flatT_ok n t ls h1 m cs x h2) fs.toList 0 l hr (fun f hf => ?_) i v u (by rwa [Nat.zero_add]) hu
     obtain ⟨j, hj⟩ := List.getElem?_of_mem hf
     have hj' : fs[j]? = some f := by simpa using hj
     have hjl : j < xs.length := by
      have := (Array.getElem?_eq_some_iff.1 hj').1
      omega
     exact ⟨xs[j], by rw [hfs j f hj', GE hjl]⟩
    ·cases h
  ·rename_i k ht
   obtain ⟨a, e, _⟩ := DataW.trod_int ht hx
   exact xez
  ·rename_i ht
   obtain ⟨a, e, _⟩ := DataW.trod_bool ht hx
   exact xez
  ·rename_i ht
   obtain ⟨a, e, _⟩ := DataW.trod_string ht hx
   exact xez
  ·rename_i e ht
   rcases DataW.trod_slice ht hx with ⟨e, _⟩ | ⟨_, _, _, _, _, _, _, e, _⟩
   ·exact xez
   ·exact xez
  ·rename_i e ht
   rcases DataW.trod_pointer ht hx with ⟨e, _⟩ | ⟨_, _, _, _, _, e, _⟩
   ·exact xez
   ·exact xez
  ·cases h
theorem cell_block {w : World} {a : Addr} {v : Value} (h : w.cell? a = some v) : a.block < w.heap.size := by
 unfold World.cell? at h
 cases hb : w.heap[a.block]? with
 | none => simp [hb] at h
 | some o => exact (Array.getElem?_eq_some_iff.1 hb).1
theorem open_rows {α : Type} (cells : α → List Value) (φ : α → Prop) {t e : TypeId} {n : Nat} {ls : List TypeId} (ht : P.underlying t = some (.slice e)) (hf : flatT P n e = some ls) (hce : P.cellsOf e = ls.length) (hpos : 0 < ls.length)
  (hrow : ∀ cs, cs.length = ls.length → (∀ (i : Nat) (v : Value) (u : TypeId), cs[i]? = some v → ls[i]? = some u → Leaf enc P w base spare held u v) → ∃ x, cs = cells x ∧ φ x)
  {fuel : Nat} {v : Value} {x : DataW H × List MemPlace} (h : DataW.trod enc P w base spare held fuel t [v] = some x) :
  ∃ (a : Option Addr) (tc : Nat) (l : List α), v = .slice a l.length tc ∧ (l.length ≤ tc ∧ l.length ≤ maxLen) ∧ (∀ x ∈ l, φ x) ∧ (l ≠ [] → ∃ b off, a = some ⟨b, off, none⟩ ∧ b < w.heap.size ∧ ∀ i x, l[i]? = some x → ∀ j v, (cells x)[j]? = some v → w.cell? ⟨b, off + i * ls.length + j, none⟩ = some v) := by
 rcases Go.Deep.open_slice ht h with ⟨e, _⟩ | ⟨a', len, cap, m, n', D, Pl, e, _, hle, hcm, hm, _, hx⟩
 ·exact xfa
 ·have hlm : len ≤ m := by rw [hm]; split <;> omega
  rw [hce] at hx
  have key : ∀ i, i < len → ∃ y : α, φ y ∧ (cells y).length = ls.length ∧ ∀ j v, (cells y)[j]? = some v → w.cell? ((a'.add (i * ls.length)).add j) = some v := by
   intro i hi
   obtain ⟨cs', h1, h2⟩ := hx i yf
   obtain ⟨_, hl, hc⟩ := World.cells?_some h1
   obtain ⟨h3, h4⟩ := flatT_ok n _ ls hf _ _ _ h2
   obtain ⟨y, rfl, hy⟩ := hrow cs' h3 h4
   refine ⟨y, hy, h3, fun j v hv => ?_⟩
   have hj : j < ls.length := by have := (List.getElem?_eq_some_iff.1 hv).1; omega
   rw [hc j hj, hv]
  have build : ∀ k, k ≤ len → ∃ l : List α, l.length = k ∧ ∀ i x, l[i]? = some x → φ x ∧ (cells x).length = ls.length ∧ ∀ j v, (cells x)[j]? = some v → w.cell? ((a'.add (i * ls.length)).add j) = some v := by
   intro k
   induction k with
   | zero => intro _; exact ⟨[], rfl, fun i x hx => by simp at hx⟩
   | succ k ih =>
    intro hk
    obtain ⟨l, hl, hall⟩ := ih yf
    obtain ⟨y, hy⟩ := key k yf
    refine ⟨l ++ [y], by simp [hl], fun i x hx => ?_⟩
    by_cases hi : i < l.length
    ·rw [List.getElem?_append_left hi] at hx; exact hall i x hx
    ·rw [List.getElem?_append_right yf] at hx
     have hi2 : i = k := by
      have := (List.getElem?_eq_some_iff.1 hx).1
      simp at this; omega
     subst hi2
     rw [hl, Nat.sub_self] at hx
     obtain rfl := Option.some.inj hx
     exact hy
  obtain ⟨l, hl, hall⟩ := build len (NR _)
  subst hl
  refine ⟨some a', cap, l, (List.cons.inj e).1, ⟨by omega, by omega⟩, fun x hx => ?_, fun hne => ?_⟩
  ·obtain ⟨i, hi⟩ := List.getElem?_of_mem hx
   exact (hall i x hi).1
  obtain ⟨ab, ao, asp⟩ := a'
  cases l with
  | nil => exact absurd rfl hne
  | cons y l =>
   obtain ⟨_, h5, h6⟩ := hall 0 y rfl
   have h0 := h6 0 _ (GE yf)
   have hsp : asp = none := by simpa [Addr.add] using World.cell?_spot h0
   subst hsp
   refine ⟨ab, ao, Z, by simpa [Addr.add] using cell_block h0, fun i x hx j v hv => ?_⟩
   have := (hall i x hx).2.2 j v hv
   rwa [Addr.add_mid, Addr.add_mid] at this
end
end Vg
namespace Au
open Go Vg Go.ChangeShapes Go.WideShapes Go.ChangeAt Go.RowKit Api LibC
set_option maxRecDepth 100000
theorem ownK : ownKnob Tryz.prog.godebug = none := by kernel_rfl
theorem laidOutK : laidOutB Tryz.prog = true := by kernel_rfl
def laidL : List (String × DataW Unit) := Rows.auditNoneRow.laid
theorem door_met (os : Os) (args : Array Value) : laidMetH Tryz.prog laidL ((World.laidAll Tryz.prog os laidL).forCall (fun _ _ => 0) ⟨#[], args, []⟩).memory := by
 rw [MakeChecks.laidMetH_plain _ _ _ yj]
 exact laidMet_laidAll args yj yj
theorem laid_at {P : Program} {W : World} : ∀ {l : List (String × DataW Unit)} {i : Nat} {nm : String} {d : DataW Unit}, laidMet P l W → l[i]? = some (nm, d) →
  ∃ g t cs fuel p, P.globalNamed nm = some g ∧ (P.globals[g]?).map (·.type) = some t ∧ W.var? P nm = some cs ∧ DataW.trod (fun _ => ()) P W 0 (fun _ => true) false fuel t cs.toList = some (d, p)
 | [], i, nm, d, _, h => by simp at h
 | x :: l, 0, nm, d, hm, h => by
  obtain rfl := Option.some.inj h
  obtain ⟨ps, ⟨g, t, cs, fuel, p, q, h1, h2, h3, h4, _, _⟩, _⟩ := hm
  exact ⟨g, t, cs, fuel, p, h1, h2, h3, h4⟩
 | x :: l, i + 1, nm, d, hm, h => laid_at (laidMet_tail hm) yd
theorem var_cells {P : Program} {W : World} {nm : String} {g : Nat} {cs : Array Value} (hg : P.globalNamed nm = some g) (h : W.var? P nm = some cs) : g < W.heap.size ∧ ∃ t fz, W.heap[g]? = some (.cells cs t fz) := by
 unfold World.var? at h
 rw [hg] at h
 simp only [Option.bind_some] at h
 cases hh : W.heap[g]? with
 | none => rw [hh] at h; cases h
 | some o =>
  rw [hh] at h
  refine ⟨(Array.getElem?_eq_some_iff.1 hh).1, ?_⟩
  cases o <;> simp at h
  subst h
  exact ⟨_, _, Z⟩
theorem words_data : (Rows.laid_fairway_audit_words : DataW Unit) = .agg ((List.range 10).map fun n => .lit (.string (wordB n))) := rfl
theorem words_of {W : World} (hL : laidMet Tryz.prog laidL W) : WordsF (fun b => b < W.heap.size) W := by
 obtain ⟨g', t, cs, fuel, p, h1, h2, h3, h4⟩ := laid_at hL (show laidL[3]? = some ("fairway/audit.words", Rows.laid_fairway_audit_words) from rfl)
 obtain rfl : g' = 0 := Option.some.inj (h1.symm.trans yj)
 obtain rfl : t = 94 := Option.some.inj (h2.symm.trans yj)
 obtain ⟨xs, m, _, e, hl, hxl, hall⟩ := DataW.trod_array Tryz.underlying94 h4
 have hce : Tryz.prog.cellsOf 9 = 1 := by kernel_rfl
 have hct : Tryz.prog.cellsOf 94 = 10 := by kernel_rfl
 rw [hct] at hl
 rw [hce] at hall
 have e1 : (Rows.laid_fairway_audit_words : DataW Unit) = .agg (xs.map (·.1)) := (Prod.mk.inj e).1
 rw [words_data] at e1
 have e2 : ((List.range 10).map fun n => (DataW.lit (.string (wordB n)) : DataW Unit)) = xs.map (·.1) := by injection e1
 obtain ⟨hlt, tt, fz, hh⟩ := var_cells h1 h3
 have hflat : cs.toList = wordsL := by
  have := flat_rows (c := fun n : Nat => [Value.string (wordT n)]) (n := 1) (xs := List.range 10) (cells := cs.toList) (off := 0) (fun i k hk => by
   have hi : i < 10 := by have := (List.getElem?_eq_some_iff.1 hk).1; simpa using this
   have e3 := congrArg (fun l => l[i]?) e2
   simp only [List.getElem?_map, hk, Option.map_some] at e3
   cases hx : xs[i]? with
   | none => rw [hx] at e3; cases e3
   | some x =>
    rw [hx] at e3
    have h5 := hall i hi
    rw [hx] at h5
    rw [Nat.zero_add]
    obtain ⟨s0, q0, k0, _⟩ := DataW.trod_string Tryz.underlying9 h5
    subst k0
    have e4 := Option.some.inj e3
    have e4 : (DataW.lit (.string (wordB k)) : DataW Unit) = DataW.lit (.string s0.data.toList) := e4
    injection e4 with e5
    injection e5 with e6
    rw [q0]
    show [Value.string s0] = [Value.string (wordT k)]
    unfold wordT
    rw [e6])
  rw [List.drop_zero, show (List.range 10).length * 1 = 10 from rfl, List.take_of_length_le yf] at this
  exact this
 exact ⟨hlt, tt, fz, by rw [← hflat]; simpa using hh⟩
theorem glob_of {W : World} (h : laidMetH Tryz.prog laidL W) : TabF (fun b => b < W.heap.size) W ∧ WordsF (fun b => b < W.heap.size) W := by
 have hp : laidMet Tryz.prog laidL W := Eq.mp (MakeChecks.laidMetH_plain Tryz.prog laidL W yj) h
 exact ⟨tabIn_of (g := 1) 2 yj yj yj yj Tryz.underlying232 Tryz.underlying214 yj yj h, words_of hp⟩
end Au
namespace Au
open Go Vg T Api Kv Ch Lg Rd Conf Rep Sched Adm
attribute [local irreducible] VO VC VA
def dvZ : List Value := [.int .i64 0, .slice none 0 0, .int .i64 0, .slice none 0 0, .slice none 0 0, .slice none 0 0]
theorem doc_spec {V : VwR} (hV : VwIn Fr w V) :
  Tri Tryz.prog 9 [.agg (vwC V).toArray] Fr w [] (fun v L => ∃ a c, v = .agg (vwC { V with na := a, nc := c }).toArray ∧ L = [slH 71 9 a V.rows.length c (flat audC V.rows)]) := by
 have hrl := hV.rl
 refine TF 30 Tryz.func9 Z yj tabOk Z Z ?_
 refine CS (CG (VG (VB (vs := vwC V) Z fun b1 => VG (VO.alloc Z fun b2 => VG (VN ?_)))))
 refine xdo ?_
 refine xej ?_
 refine xbz ?_
 refine VG (VI (LB (pv := [(0, .agg (V.ch.cells V.ma V.mc).toArray), (2, .slice V.da V.done.length V.dc), (3, .slice V.xa V.mail.length V.xc)]) (vwC { V with rows := V.rows.take (0), na := none, nc := 0 }) Z Z Z yj Z) ?_)
 refine VG (VO.alloc Z fun b3 => ?_)
 refine VG (VT (vs := vwC { V with rows := V.rows.take (0), na := none, nc := 0 }) (cs' := vwC { V with rows := V.rows.take (0), na := none, nc := 0 }) 0 Z Z Z Z (NR _) Z Z Z ?_)
 refine xcd ?_
 refine CN (L' := slH 71 9 none 0 0 [] :: [pt b3 (vwC { V with rows := V.rows.take (0), na := none, nc := 0 }) 41, pt b2 dvZ 41, pt b1 (vwC V) 32]) (Imp.slNil Imp.refl).ent ?_
 refine xdo ?_
 refine VC.loop (σ := Nat × Option Addr × Nat) (fun s => [(1, pV b1), (2, pV b2), (3, pV b3), (4, .int .i64 s.1)]) (fun s => [slH 71 9 s.2.1 (V.rows.take (s.1)).length s.2.2 (flat audC (V.rows.take (s.1))), pt b3 (vwC { V with rows := V.rows.take (s.1), na := s.2.1, nc := s.2.2 }) 41, pt b2 dvZ 41, pt b1 (vwC V) 32]) (fun s => s.1 ≤ V.rows.length) (fun s => V.rows.length - s.1) (0, none, 0)
  (Nat.zero_le _) sbZ ER ?_
 rintro ⟨k, a, c⟩ hk
 dsimp only at hk ⊢
 refine xdq ?_
 refine CP (p := (k : Int) < (V.rows.length : Int)) Z (fun h2 => CK ?_) (fun h2 => CX ?_)
 rotate_left
 ·obtain rfl : k = V.rows.length := by omega
  rw [List.take_length]
  refine xdo ?_
  refine VG (VL 1 (vwC { V with na := a, nc := c }) Z Z Z Z ?_)
  refine VG (VT (vs := vwC { V with na := a, nc := c }) (cs' := vwC { V with na := a, nc := c }) 2 Z Z Z Z (NR _) Z Z Z ?_)
  refine xdo ?_
  exact CR (Ret.cell 2 Z Z Z (RdL.many 2 Z Z) (IP 0 Z (Imp.nil)).ent ⟨a, c, Z, Z⟩)
 have hk2 : k < V.rows.length := by omega
 obtain ⟨x, hxk⟩ : ∃ x, V.rows[k]? = some x := ⟨_, GE hk2⟩
 obtain ⟨qb, qo, hqa, qra, qrc⟩ := RwIn.rd (X := ⟨Tryz.prog, tab, tabOk, 30, Fr, w⟩) hV.rows hxk
 have htl : (V.rows.take k).length = k := by rw [List.length_take]; omega
 have htk : V.rows.take (k + 1) = V.rows.take k ++ [x] := by rw [List.take_add_one, hxk]; rfl
 refine xca ?_
 refine CD (ts 0 7 (.only 7 (.only 8 (.take 9 (.only 10 .nil))))) yj yl ?_
 refine xeb ?_
 refine AG (AI Z (light_idx k yaw Z Z Z Z Z hk2) ?_)
 refine AG (VA.load Z Z Z (qra _ _ Z Z) ?_)
 refine AG (AO (OpT.buildSlice (n := 1) (pv := [(0, .agg (audC x).toArray)]) (cells := audC x) rfl rfl rfl rfl yk (fill_one rfl rfl rfl)) rfl (fun v L' g => by obtain ⟨nb, rfl, rfl⟩ := g; exact yax) ?_)
 rintro v L' ⟨nb, rfl, rfl⟩
 refine AG (AO (OpT.append (m := 1) (news := audC x) 1 rfl rfl rfl rfl rfl rfl rfl (RdRow.pt 0 rfl rfl rfl) rfl (by show ((V.rows.take k).length + 1) * _ ≤ _; rw [htl]; exact small_bytes (k := 100000) yf yk) (by show (V.rows.take k).length + 1 ≤ _; omega)) rfl (fun v L' g => by obtain ⟨a2, c2, rfl, hc2, rfl⟩ := g; exact yax) ?_)
 rintro v L' ⟨a2, c2, rfl, hc2, rfl⟩
 refine xeb ?_
 refine AG (VA.st 2 (cs' := vwC { V with rows := V.rows.take (k + 1), na := a2, nc := c2 }) Z Z Z Z Z (by show 3 < 6; omega) (by show (vwC _).set 3 _ = _; unfold vwC; rw [htk, List.length_append]; rfl) Z (by (try refine Pd.st ?_);(repeat (first|exact Pd.nil|exact Pd.fnil|refine Pd.inner ?_|refine Pd.skip yl ?_|refine zf (zo 0 Z Z) ?_|refine zf (zo 1 Z Z) ?_|refine zf (zo 2 Z Z) ?_|refine zf (zo 3 Z Z) ?_|refine zf (zo 4 Z Z) ?_|refine zf (zm 0 Z Z) ?_|refine zf (zm 1 Z Z) ?_|refine zf (zm 2 Z Z) ?_|refine zf (zm 3 Z Z) ?_|refine zf (zm 4 Z Z) ?_|refine zf (RdL.blk (qra _ _ Z Z) Z) ?_|refine zf ((qra _ _ Z Z)) ?_|refine zc (zo 0 Z Z) ?_|refine zc (zo 1 Z Z) ?_|refine zc (zo 2 Z Z) ?_|refine zc (zo 3 Z Z) ?_|refine zc (zo 4 Z Z) ?_|refine zc (zm 0 Z Z) ?_|refine zc (zm 1 Z Z) ?_|refine zc (zm 2 Z Z) ?_|refine zc (zm 3 Z Z) ?_|refine zc (zm 4 Z Z) ?_|refine zc (RdL.blk (qra _ _ Z Z) Z) ?_|refine zc ((qra _ _ Z Z)) ?_))) ?_)
 refine xdm ?_
 refine zff ?_
 exact ⟨(k + 1, a2, c2), hk2, by dsimp only; omega, sbZ, (Imp.trans (pkZ [0, 1, 1, 1]) (Imp.of_eq (by dsimp only; rw [htk, List.length_append, flat_append]; rfl))).ent⟩
end Au
namespace Au
open Go Vg T Api Kv Ch Lg Rd Conf Rep Sched Adm
attribute [local irreducible] VO VC VA
theorem entries27_spec {a : Option Addr} {cap : Nat} {l : List EntryM} (h : RwIn entC 7 Fr w a l) (hl : l.length ≤ 9223372036854775807) (n : Int) :
  Tri Tryz.prog 13 [.slice a l.length cap, .int .i64 n] Fr w [] (fun v L => (∃ b, v = .bool b ∧ (b = false → (l.length : Int) ≤ n)) ∧ L = []) := by
 refine TF 34 Tryz.func13 Z yj tabOk Z Z ?_
 refine xdo ?_
 refine VC.loop (σ := Nat) (fun i => [(0, .slice a l.length cap), (1, .int .i64 n), (5, .int .i64 i)]) (fun _ => []) (fun i => i ≤ l.length) (fun i => l.length - i) 0
  (Nat.zero_le _) sbZ ER ?_
 rintro i hi
 refine xdo ?_
 refine CP (p := (i : Int) < (l.length : Int)) Z (fun h2 => CK ?_) (fun h2 => CX ?_)
 rotate_left
 ·refine xdo ?_
  exact CR (Ret.bool 4 Z Z Z ER ⟨⟨_, Z, fun hb => by have := of_decide_eq_false hb; omega⟩, Z⟩)
 have hi2 : i < l.length := by omega
 obtain ⟨x, hxk⟩ : ∃ x, l[i]? = some x := ⟨_, GE hi2⟩
 obtain ⟨qb, qo, hqa, qra, qrc⟩ := RwIn.rd (X := ⟨Tryz.prog, tab, tabOk, 34, Fr, w⟩) h hxk
 refine CS (VC.block (CS ?_))
 refine VC.meetS (σ := Bool) (fun b => [(0, .slice a l.length cap), (1, .int .i64 n), (5, .int .i64 i), (29, .bool b)]) (fun _ => []) (fun _ => True) ?_ ?_
 ·refine CG ?_
  refine xdo ?_
  refine VG (VI (light_idx i yay Z Z Z Z Z hi2) ?_)
  refine xdo ?_
  refine VG (VD Z Z (qrc _ _ 4 _ Z Z) ?_)
  refine xdo ?_
  by_cases g1 : (100 : Int) < (x.op.key.size : Int)
  ·refine VG (VY 20 true Z (DT g1) ?_)
   refine xdo ?_
   exact ⟨true, trivial, sbZ, ER⟩
  ·refine VG (VY 20 false Z (DF g1) ?_)
   refine xdo ?_
   refine VG (VI (light_idx i yay Z Z Z Z Z hi2) ?_)
   refine xdo ?_
   refine VG (VD Z Z (qrc _ _ 5 _ Z Z) ?_)
   refine xdo ?_
   exact ⟨_, trivial, SC Z (SC Z (SC Z (SC Z (SN _)))), ER⟩
 rintro b -
 refine CC Z (fun hb => ?_) (fun hb => CK ?_)
 ·refine xdo ?_
  exact CR (Ret.bool 4 rfl rfl rfl ER ⟨⟨true, rfl, fun hb => by cases hb⟩, rfl⟩)
 refine zff ?_
 exact ⟨i + 1, hi2, by dsimp only; omega, sbZ, ER⟩
end Au
namespace Au
open Go Vg T Api Kv Ch Lg Rd Conf Rep Sched Adm
attribute [local irreducible] VO VC VA
structure AudI (Fr : Nat → Prop) (w : World) (x : AudR) : Prop where
 ms : RwIn memC 2 Fr w x.ma x.n.ch.ms
 waits : IntsIn Fr w x.wa x.n.waits
 log : RwIn entC 7 Fr w x.la x.n.log
 ll : x.n.log.length ≤ 9223372036854775807
structure VwI (Fr : Nat → Prop) (w : World) (V : VwR) : Prop where
 ms : RwIn memC 2 Fr w V.ma V.ch.ms
 rows : RwIn audC 9 Fr w V.na V.rows
 each : ∀ x ∈ V.rows, AudI Fr w x
 done : RwIn entC 7 Fr w V.da V.done
 mail : RwIn triC 3 Fr w V.xa V.mail
 dl : V.done.length ≤ 9223372036854775807
theorem AudI.of {X : Cx} {x : AudR} (h : AudI X.Fr X.w0 x) {Fr' : Nat → Prop} {w : World} {L : List HP} (hF : ∀ b, X.Fr b → Fr' b) (hw : St X L w) : AudI Fr' w x := ⟨h.ms.of hF hw, ints_of h.waits hF hw, h.log.of hF hw, h.ll⟩
theorem VwI.of {X : Cx} {V : VwR} (h : VwI X.Fr X.w0 V) {Fr' : Nat → Prop} {w : World} {L : List HP} (hF : ∀ b, X.Fr b → Fr' b) (hw : St X L w) : VwI Fr' w V := ⟨h.ms.of hF hw, h.rows.of hF hw, fun x hx => (h.each x hx).of hF hw, h.done.of hF hw, h.mail.of hF hw, h.dl⟩
def xFew (x : AudR) : Prop := x.n.waits.length ≤ 8 ∧ x.n.ch.ms.length ≤ 10 ∧ x.n.log.length ≤ 20
def vFew (V : VwR) : Prop := V.rows.length ≤ 8 ∧ V.mail.length ≤ 20 ∧ V.ch.ms.length ≤ 10 ∧ V.done.length ≤ 30 ∧ ∀ x ∈ V.rows, xFew x
theorem VwI.few {Fr : Nat → Prop} {w : World} {V : VwR} (h : VwI Fr w V) (f : vFew V) : VwIn Fr w V where
 ms := h.ms
 rows := h.rows
 each := fun x hx => by
  have := h.each x hx
  obtain ⟨f1, f2, f3⟩ := f.2.2.2.2 x hx
  exact ⟨this.ms, this.waits, this.log, by omega, by omega, by omega⟩
 done := h.done
 mail := h.mail
 msl := by have := f.2.2.1; omega
 rl := by have := f.1; omega
 dl := by have := f.2.2.2.1; omega
 xl := by have := f.2.1; omega
theorem great_spec {V : VwR} (hV : VwI Fr w V) :
  Tri Tryz.prog 5 [.agg (vwC V).toArray] Fr w [] (fun v L => (∃ b, v = .bool b ∧ (b = false → vFew V)) ∧ L = []) := by
 refine TF 55 Tryz.func5 Z yj tabOk Z Z ?_
 refine CS (CG (VG (VB (vs := vwC V) Z fun b1 => VG (VN ?_))))
 refine CS (CS ?_)
 refine VC.meetS (σ := Bool) (fun b => [(1, pV b1), (2, .bool false), (26, .bool b)]) (fun _ => [pt b1 (vwC V) 32]) (fun b => b = false → V.rows.length ≤ 8 ∧ V.mail.length ≤ 20 ∧ V.ch.ms.length ≤ 10 ∧ V.done.length ≤ 30) ?_ ?_
 ·refine CG ?_
  refine xbj ?_
  by_cases g1 : (8 : Int) < (V.rows.length : Int)
  ·refine VG (VY 9 true Z (DT g1) ?_)
   refine xbj ?_
   refine VG (VY 15 true Z Z ?_)
   refine xbj ?_
   refine VG (VY 22 true Z Z ?_)
   refine xbj ?_
   exact xfb
  refine VG (VY 9 false Z (DF g1) ?_)
  refine xbj ?_
  by_cases g2 : (20 : Int) < (V.mail.length : Int)
  ·refine VG (VY 15 true Z (DT g2) ?_)
   refine xbj ?_
   refine VG (VY 22 true Z Z ?_)
   refine xbj ?_
   exact xfb
  refine VG (VY 15 false Z (DF g2) ?_)
  refine xbj ?_
  by_cases g3 : (10 : Int) < (V.ch.ms.length : Int)
  ·refine VG (VY 22 true Z (DT g3) ?_)
   refine xbj ?_
   exact xfb
  refine VG (VY 22 false Z (DF g3) ?_)
  refine xbj ?_
  refine VG (VO.callP (fun Fr w hF hs hS => entries27_spec Fr w (hV.done.of hF hs) hV.dl 30) Z ?_)
  rintro _ ⟨b, rfl, hb⟩
  refine xbj ?_
  exact ⟨b, fun h => (by have := hb h; omega), sbZ, ER⟩
 rintro b hb
 refine CC Z (fun h => ?_) (fun h => CK ?_)
 ·refine xdo ?_
  exact xfc
 obtain ⟨f1, f2, f3, f4⟩ := hb h
 refine xdo ?_
 refine VC.loop (σ := Nat) (fun i => [(1, pV b1), (2, .bool false), (3, .int .i64 i)]) (fun _ => [pt b1 (vwC V) 32]) (fun i => i ≤ V.rows.length ∧ ∀ x ∈ V.rows.take i, xFew x) (fun i => V.rows.length - i) 0
  ⟨Nat.zero_le _, fun x hx => (by simp at hx)⟩ sbZ ER ?_
 rintro i ⟨hi, hx⟩
 refine xbj ?_
 refine CP (p := (i : Int) < (V.rows.length : Int)) Z (fun h2 => CK ?_) (fun h2 => CX ?_)
 rotate_left
 ·obtain rfl : i = V.rows.length := by omega
  rw [List.take_length] at hx
  refine xdo ?_
  exact CR (Ret.bool 2 Z Z Z Imp.nil.ent ⟨⟨false, Z, fun _ => ⟨f1, f2, f3, f4, hx⟩⟩, Z⟩)
 have hi2 : i < V.rows.length := by omega
 obtain ⟨x, hxk⟩ : ∃ x, V.rows[i]? = some x := ⟨_, GE hi2⟩
 obtain ⟨qb, qo, hqa, qra, qrc⟩ := RwIn.rd (X := ⟨Tryz.prog, tab, tabOk, 55, Fr, w⟩) hV.rows hxk
 have hxm := hV.each x (ME hxk)
 refine CS (VC.block (CS (CG ?_)))
 refine xbj ?_
 refine VG (VI (light_idx i yaw Z Z Z Z Z hi2) ?_)
 refine xeg ?_
 refine VG (VO.alloc Z fun b4 => ?_)
 refine VG (VT (vs := audC x) (cs' := audC x) 0 Z Z Z Z (NR _) Z Z Z ?_)
 refine xcd ?_
 refine CS ?_
 refine VC.meetS (σ := Bool) (fun b => [(1, pV b1), (2, .bool false), (3, .int .i64 i), (54, .bool b)]) (fun _ => [pt b1 (vwC V) 32]) (fun b => b = false → xFew x) ?_ ?_
 ·refine CG ?_
  refine xbz ?_
  by_cases g1 : (8 : Int) < (x.n.waits.length : Int)
  ·refine VG (VY 43 true Z (DT g1) ?_)
   refine xbz ?_
   refine VG (VY 50 true Z Z ?_)
   refine xbz ?_
   exact ⟨true, fun h => yab, sbZ, (IP 1 rfl (Imp.nil)).ent⟩
  refine VG (VY 43 false Z (DF g1) ?_)
  refine xbz ?_
  by_cases g2 : (10 : Int) < (x.n.ch.ms.length : Int)
  ·refine VG (VY 50 true Z (DT g2) ?_)
   refine xbz ?_
   exact ⟨true, fun h => yab, sbZ, (IP 1 rfl (Imp.nil)).ent⟩
  refine VG (VY 50 false Z (DF g2) ?_)
  refine xbz ?_
  refine VG (VO.callP (fun Fr w hF hs hS => entries27_spec Fr w (hxm.log.of hF hs) hxm.ll 20) Z ?_)
  rintro _ ⟨b, rfl, hb⟩
  refine xbz ?_
  exact ⟨b, fun h => (by have := hb h; exact ⟨by omega, by omega, by omega⟩), sbZ, (IP 1 Z (Imp.nil)).ent⟩
 rintro b hb
 refine CC Z (fun h => ?_) (fun h => CK ?_)
 ·refine xdo ?_
  exact xfc
 refine zff ?_
 exact ⟨i + 1, ⟨hi2, fun y hy => by
  rw [List.take_add_one, hxk] at hy
  rcases List.mem_append.1 hy with h1 | h1
  ·exact hx y h1
  ·obtain rfl := List.mem_singleton.1 h1
   exact hb h⟩, by dsimp only; omega, sbZ, ER⟩
end Au
namespace Adm
open Go Vg Go.ChangeShapes Go.WideShapes Go.ChangeAt Go.RowKit Sched Conf
theorem confFlat : flatT Tryz.prog 3 24 = some [3, 3, 3, 22, 3, 3, 3, 3, 3, 3, 3, 3] := by kernel_rfl
theorem intFlat : flatT Tryz.prog 1 3 = some [3] := by kernel_rfl
section
variable {H : Type} {enc : TypeId × Value → H} {w : World} {base : Nat} {spare : Nat → Bool} {held : Bool}
theorem leaf_ints {v : Value} (h : Leaf enc Tryz.prog w base spare held 22 v) : ∃ a tc l, v = .slice a (l : List Int).length tc ∧ l.length ≤ tc ∧ IntsIn (fun b => b < w.heap.size) w a l := by
 obtain ⟨fuel, x, hf⟩ := h
 obtain ⟨a, tc, l, e, h1, h2, h3⟩ := open_rows (α := Int) (fun x => [.int .i64 x]) (fun _ => True) Tryz.underlying22 intFlat yj yk (fun cs hl hc => by
  match cs, hl, hc with
  | [c], _, hc =>
   obtain ⟨n, rfl, _⟩ := (hc 0 c _ rfl rfl).int Tryz.underlying3
   exact ⟨n, Z, trivial⟩) hf
 refine ⟨a, tc, l, e, h1.1, ⟨fun hne => ?_⟩⟩
 obtain ⟨b, off, h4, h5, h6⟩ := h3 hne
 refine ⟨b, off, h4, h5, fun i v hv => ?_⟩
 have := h6 i v hv 0 _ rfl
 simpa using this
theorem leaf_conf {cs : List Value} (hl : cs.length = 12) (h3 : ∀ (i : Nat) (v : Value) (u : TypeId), cs[i]? = some v → ([3, 3, 3, 22, 3, 3, 3, 3, 3, 3, 3, 3] : List TypeId)[i]? = some u → Leaf enc Tryz.prog w base spare held u v) :
  ∃ (c : ConfM) (a : Option Addr) (cap : Nat), cs = c.cells a cap ∧ c.qs.length ≤ cap ∧ IntsIn (fun b => b < w.heap.size) w a c.qs := by
 match cs, hl, h3 with
 | [c0, c1, c2, c3, c4, c5, c6, c7, c8, c9, c10, c11], _, h3 =>
 obtain ⟨n0, rfl, _⟩ := (h3 0 c0 _ rfl rfl).int Tryz.underlying3
 obtain ⟨n1, rfl, _⟩ := (h3 1 c1 _ rfl rfl).int Tryz.underlying3
 obtain ⟨n2, rfl, _⟩ := (h3 2 c2 _ rfl rfl).int Tryz.underlying3
 obtain ⟨a3, cap3, l3, rfl, hc3, hq3⟩ := leaf_ints (h3 3 c3 _ rfl rfl)
 obtain ⟨n4, rfl, _⟩ := (h3 4 c4 _ rfl rfl).int Tryz.underlying3
 obtain ⟨n5, rfl, _⟩ := (h3 5 c5 _ rfl rfl).int Tryz.underlying3
 obtain ⟨n6, rfl, _⟩ := (h3 6 c6 _ rfl rfl).int Tryz.underlying3
 obtain ⟨n7, rfl, _⟩ := (h3 7 c7 _ rfl rfl).int Tryz.underlying3
 obtain ⟨n8, rfl, _⟩ := (h3 8 c8 _ rfl rfl).int Tryz.underlying3
 obtain ⟨n9, rfl, _⟩ := (h3 9 c9 _ rfl rfl).int Tryz.underlying3
 obtain ⟨n10, rfl, _⟩ := (h3 10 c10 _ rfl rfl).int Tryz.underlying3
 obtain ⟨n11, rfl, _⟩ := (h3 11 c11 _ rfl rfl).int Tryz.underlying3
 exact ⟨⟨n0, n1, n2, l3, n4, n5, n6, n7, n8, n9, n10, n11⟩, a3, cap3, Z, hc3, hq3⟩
theorem okWide_agg {P : Program} {r : Reach} {t : TypeId} {v : Value} {fs : Array Field} (ht : P.underlying t = some (.struct fs)) (h : Value.okWide P w r base t v) : ∃ cs : List Value, v = .agg cs.toArray := by
 unfold Value.okWide at h
 rw [ht] at h
 obtain ⟨cs, h, _⟩ := h
 exact ⟨cs.toList, by rw [h]⟩
theorem open_conf {base0 : Nat} {v : Value} {d : DataW H} {ps : List MemPlace} (hval : Value.okWide Tryz.prog w .any base0 24 v) (h : DataW.Trod enc Tryz.prog w base spare held 24 v d ps) :
  ∃ (c : ConfM) (a : Option Addr) (cap : Nat), v = .agg (c.cells a cap).toArray ∧ c.qs.length ≤ cap ∧ IntsIn (fun b => b < w.heap.size) w a c.qs := by
 obtain ⟨cs, rfl⟩ := okWide_agg Tryz.underlying24 hval
 obtain ⟨fuel, hf⟩ := h
 obtain ⟨h1, h2⟩ := flatT_ok 3 _ _ confFlat fuel cs _ hf
 obtain ⟨c, a, cap, rfl, h3, h4⟩ := leaf_conf h1 h2
 exact ⟨c, a, cap, Z, h3, h4⟩
end
end Adm
namespace Au
open Go Vg Go.ChangeShapes Go.WideShapes Go.ChangeAt Go.RowKit Sched Conf Adm Api Ch Lg
section
variable {H : Type} {enc : TypeId × Value → H} {P : Program} {w : World} {base : Nat} {spare : Nat → Bool} {held : Bool}
theorem open_rowsX {α : Type} (cells : α → List Value) (φ : α → Prop) {t e : TypeId} {n : Nat} (ht : P.underlying t = some (.slice e)) (hce : P.cellsOf e = n) (hpos : 0 < n) (hlen : ∀ x, (cells x).length = n)
  (hrow : ∀ fuel cs (x : DataW H × List MemPlace), DataW.trod enc P w base spare held fuel e cs = some x → ∃ x, cs = cells x ∧ φ x)
  {fuel : Nat} {v : Value} {x : DataW H × List MemPlace} (h : DataW.trod enc P w base spare held fuel t [v] = some x) :
  ∃ (a : Option Addr) (tc : Nat) (l : List α), v = .slice a l.length tc ∧ (l.length ≤ tc ∧ l.length ≤ maxLen) ∧ (∀ x ∈ l, φ x) ∧ (l ≠ [] → ∃ b off, a = some ⟨b, off, none⟩ ∧ b < w.heap.size ∧ ∀ i x, l[i]? = some x → ∀ j v, (cells x)[j]? = some v → w.cell? ⟨b, off + i * n + j, none⟩ = some v) := by
 rcases Go.Deep.open_slice ht h with ⟨e, _⟩ | ⟨a', len, cap, m, n', D, Pl, e, _, hle, hcm, hm, _, hx⟩
 ·exact xfa
 ·have hlm : len ≤ m := by rw [hm]; split <;> omega
  rw [hce] at hx
  have key : ∀ i, i < len → ∃ y : α, φ y ∧ ∀ j v, (cells y)[j]? = some v → w.cell? ((a'.add (i * n)).add j) = some v := by
   intro i hi
   obtain ⟨cs', h1, h2⟩ := hx i yf
   obtain ⟨_, hl, hc⟩ := World.cells?_some h1
   obtain ⟨y, rfl, hy⟩ := hrow _ _ _ h2
   refine ⟨y, hy, fun j v hv => ?_⟩
   have hj : j < n := by have := (List.getElem?_eq_some_iff.1 hv).1; have := hlen y; omega
   rw [hc j hj, hv]
  have build : ∀ k, k ≤ len → ∃ l : List α, l.length = k ∧ ∀ i x, l[i]? = some x → φ x ∧ ∀ j v, (cells x)[j]? = some v → w.cell? ((a'.add (i * n)).add j) = some v := by
   intro k
   induction k with
   | zero => intro _; exact ⟨[], rfl, fun i x hx => by simp at hx⟩
   | succ k ih =>
    intro hk
    obtain ⟨l, hl, hall⟩ := ih yf
    obtain ⟨y, hy⟩ := key k yf
    refine ⟨l ++ [y], by simp [hl], fun i x hx => ?_⟩
    by_cases hi : i < l.length
    ·rw [List.getElem?_append_left hi] at hx; exact hall i x hx
    ·rw [List.getElem?_append_right yf] at hx
     have hi2 : i = k := by
      have := (List.getElem?_eq_some_iff.1 hx).1
      simp at this; omega
     subst hi2
     rw [hl, Nat.sub_self] at hx
     obtain rfl := Option.some.inj hx
     exact hy
  obtain ⟨l, hl, hall⟩ := build len (NR _)
  subst hl
  refine ⟨some a', cap, l, (List.cons.inj e).1, ⟨by omega, by omega⟩, fun x hx => ?_, fun hne => ?_⟩
  ·obtain ⟨i, hi⟩ := List.getElem?_of_mem hx
   exact (hall i x hi).1
  obtain ⟨ab, ao, asp⟩ := a'
  cases l with
  | nil => exact absurd rfl hne
  | cons y l =>
   obtain ⟨_, h6⟩ := hall 0 y rfl
   have h0 := h6 0 _ (GE (by rw [hlen y]; exact hpos))
   have hsp : asp = none := by simpa [Addr.add] using World.cell?_spot h0
   subst hsp
   refine ⟨ab, ao, Z, by simpa [Addr.add] using cell_block h0, fun i x hx j v hv => ?_⟩
   have := (hall i x hx).2 j v hv
   rwa [Addr.add_mid, Addr.add_mid] at this
end
section
variable {H : Type} {enc : TypeId × Value → H} {w : World} {base : Nat} {spare : Nat → Bool} {held : Bool}
theorem vmemFlat : flatT Tryz.prog 2 75 = some [3, 3] := by kernel_rfl
theorem ventFlat : flatT Tryz.prog 3 99 = some [3, 3, 3, 3, 9, 9, 3] := by kernel_rfl
theorem vnodeFlat : flatT Tryz.prog 4 61 = some [3, 3, 3, 3, 3, 25, 3, 22, 29] := by kernel_rfl
theorem vviewFlat : flatT Tryz.prog 4 32 = some [3, 25, 3, 28, 29, 30] := by kernel_rfl
theorem leaf_members {v : Value} (h : Leaf enc Tryz.prog w base spare held 25 v) : ∃ a tc l, v = .slice a (l : List MemM).length tc ∧ RwIn memC 2 (fun b => b < w.heap.size) w a l := by
 obtain ⟨fuel, x, hf⟩ := h
 obtain ⟨a, tc, l, e, h1, h2, h3⟩ := open_rows (α := MemM) memC (fun _ => True) Tryz.underlying25 vmemFlat yj yk (fun cs hl h3 => by
  match cs, hl, h3 with
  | [c1, c2], _, h3 =>
  obtain ⟨n1, rfl, _⟩ := (h3 0 c1 _ rfl rfl).int Tryz.underlying3
  obtain ⟨n2, rfl, _⟩ := (h3 1 c2 _ rfl rfl).int Tryz.underlying3
  exact ⟨(n1, n2), Z, trivial⟩) hf
 exact ⟨a, tc, l, e, ⟨h3⟩⟩
theorem leaf_entries {v : Value} (h : Leaf enc Tryz.prog w base spare held 29 v) : ∃ a tc l, v = .slice a (l : List EntryM).length tc ∧ l.length ≤ 9223372036854775807 ∧ RwIn entC 7 (fun b => b < w.heap.size) w a l := by
 obtain ⟨fuel, x, hf⟩ := h
 obtain ⟨a, tc, l, e, h1, h2, h3⟩ := open_rows (α := EntryM) entC (fun _ => True) Tryz.underlying29 ventFlat yj yk (fun cs hl h3 => by
  match cs, hl, h3 with
  | [c0, c1, c2, c3, c4, c5, c6], _, h3 =>
  obtain ⟨n0, rfl, _⟩ := (h3 0 c0 _ rfl rfl).int Tryz.underlying3
  obtain ⟨n1, rfl, _⟩ := (h3 1 c1 _ rfl rfl).int Tryz.underlying3
  obtain ⟨n2, rfl, _⟩ := (h3 2 c2 _ rfl rfl).int Tryz.underlying3
  obtain ⟨n3, rfl, _⟩ := (h3 3 c3 _ rfl rfl).int Tryz.underlying3
  obtain ⟨s4, rfl, _⟩ := (h3 4 c4 _ rfl rfl).str Tryz.underlying9
  obtain ⟨s5, rfl, _⟩ := (h3 5 c5 _ rfl rfl).str Tryz.underlying9
  obtain ⟨n6, rfl, _⟩ := (h3 6 c6 _ rfl rfl).int Tryz.underlying3
  exact ⟨⟨n0, n1, n2, ⟨n3, s4, s5, n6⟩⟩, Z, trivial⟩) hf
 have hm : maxLen ≤ 9223372036854775807 := by decide
 exact ⟨a, tc, l, e, by omega, ⟨h3⟩⟩
theorem leaf_tris {v : Value} (h : Leaf enc Tryz.prog w base spare held 30 v) : ∃ a tc l, v = .slice a (l : List TriM).length tc ∧ RwIn triC 3 (fun b => b < w.heap.size) w a l := by
 obtain ⟨fuel, x, hf⟩ := h
 have hce : Tryz.prog.cellsOf 3 = 1 := by kernel_rfl
 have hct : Tryz.prog.cellsOf 69 = 3 := by kernel_rfl
 obtain ⟨a, tc, l, e, h1, h2, h3⟩ := open_rowsX (α := TriM) triC (fun _ => True) Tryz.underlying30 hct yk triC_len (fun fuel cs x hx => by
  obtain ⟨xs, m, _, e, hl, hxl, hall⟩ := DataW.trod_array Tryz.underlying69 hx
  rw [hct] at hl
  rw [hce] at hall
  match cs, hl, hall with
  | [c0, c1, c2], _, hall =>
  have h0 := hall 0 yk
  have h1 := hall 1 yk
  have h2 := hall 2 yk
  rw [GE yf] at h0 h1 h2
  obtain ⟨n0, e0, _⟩ := DataW.trod_int Tryz.underlying3 h0
  obtain ⟨n1, e1, _⟩ := DataW.trod_int Tryz.underlying3 h1
  obtain ⟨n2, e2, _⟩ := DataW.trod_int Tryz.underlying3 h2
  obtain rfl : c0 = .int .i64 n0 := (List.cons.inj e0).1
  obtain rfl : c1 = .int .i64 n1 := (List.cons.inj e1).1
  obtain rfl : c2 = .int .i64 n2 := (List.cons.inj e2).1
  exact ⟨(n0, n1, n2), Z, trivial⟩) hf
 exact ⟨a, tc, l, e, ⟨h3⟩⟩
theorem leaf_nodes {v : Value} (h : Leaf enc Tryz.prog w base spare held 28 v) : ∃ a tc l, v = .slice a (l : List AudR).length tc ∧ (∀ x ∈ l, AudI (fun b => b < w.heap.size) w x) ∧ RwIn audC 9 (fun b => b < w.heap.size) w a l := by
 obtain ⟨fuel, x, hf⟩ := h
 obtain ⟨a, tc, l, e, h1, h2, h3⟩ := open_rows (α := AudR) audC (AudI (fun b => b < w.heap.size) w) Tryz.underlying28 vnodeFlat yj yk (fun cs hl h3 => by
  match cs, hl, h3 with
  | [c0, c1, c2, c3, c4, c5, c6, c7, c8], _, h3 =>
  obtain ⟨n0, rfl, _⟩ := (h3 0 c0 _ rfl rfl).int Tryz.underlying3
  obtain ⟨n1, rfl, _⟩ := (h3 1 c1 _ rfl rfl).int Tryz.underlying3
  obtain ⟨n2, rfl, _⟩ := (h3 2 c2 _ rfl rfl).int Tryz.underlying3
  obtain ⟨n3, rfl, _⟩ := (h3 3 c3 _ rfl rfl).int Tryz.underlying3
  obtain ⟨n4, rfl, _⟩ := (h3 4 c4 _ rfl rfl).int Tryz.underlying3
  obtain ⟨a5, k5, l5, rfl, h5⟩ := leaf_members (h3 5 c5 _ rfl rfl)
  obtain ⟨n6, rfl, _⟩ := (h3 6 c6 _ rfl rfl).int Tryz.underlying3
  obtain ⟨a7, k7, l7, rfl, _, h7⟩ := leaf_ints (h3 7 c7 _ rfl rfl)
  obtain ⟨a8, k8, l8, rfl, hl8, h8⟩ := leaf_entries (h3 8 c8 _ rfl rfl)
  exact ⟨⟨⟨n0, n1, n2, n3, ⟨n4, l5, n6⟩, l7, l8⟩, a5, k5, a7, k7, a8, k8⟩, Z, ⟨h5, h7, h8, hl8⟩⟩) hf
 exact ⟨a, tc, l, e, h2, ⟨h3⟩⟩
theorem open_view {base0 : Nat} {v : Value} {d : DataW H} {ps : List MemPlace} (hval : Value.okWide Tryz.prog w .any base0 32 v) (h : DataW.Trod enc Tryz.prog w base spare held 32 v d ps) :
  ∃ V : VwR, v = .agg (vwC V).toArray ∧ VwI (fun b => b < w.heap.size) w V := by
 obtain ⟨cs, rfl⟩ := okWide_agg Tryz.underlying32 hval
 obtain ⟨fuel, hf⟩ := h
 obtain ⟨hl, h3⟩ := flatT_ok 4 _ _ vviewFlat fuel cs _ hf
 match cs, hl, h3 with
 | [c0, c1, c2, c3, c4, c5], _, h3 =>
 obtain ⟨n0, rfl, _⟩ := (h3 0 c0 _ rfl rfl).int Tryz.underlying3
 obtain ⟨a1, k1, l1, rfl, h1⟩ := leaf_members (h3 1 c1 _ rfl rfl)
 obtain ⟨n2, rfl, _⟩ := (h3 2 c2 _ rfl rfl).int Tryz.underlying3
 obtain ⟨a4, k4, l4, rfl, h4, h5⟩ := leaf_nodes (h3 3 c3 _ rfl rfl)
 obtain ⟨a6, k6, l6, rfl, hl6, h6⟩ := leaf_entries (h3 4 c4 _ rfl rfl)
 obtain ⟨a7, k7, l7, rfl, h7⟩ := leaf_tris (h3 5 c5 _ rfl rfl)
 exact ⟨⟨⟨n0, l1, n2⟩, a1, k1, l4, a4, k4, l6, a6, k6, l7, a7, k7⟩, Z, ⟨h1, h5, h4, h6, h7, hl6⟩⟩
end
end Au
namespace Au
open Go Vg T Api Kv Ch Lg Rd Conf Rep Sched Adm LibC
attribute [local irreducible] VO VC VA
theorem guardRf : Tryz.prog.eqGuardType Tryz.prog.depth 44 = false := by kernel_rfl
theorem stoodRf : Tryz.prog.stoodInHeld 44 = false := by kernel_rfl
theorem rf_eq (a b : FindM) (w : World) : (Op.equal 44 (.agg (fdC a).toArray) (.agg (fdC b).toArray)).run Tryz.prog w = .ok (fdEqB a b) w := by
 have hi : ∀ (cs : List Value) (j : Nat) (n : Int), cs[j]? = some (.int .i64 n) → ∀ w : World, (part 3 cs.toArray j).run Tryz.prog w = .ok (.int .i64 n) w := fun cs j n h w => part1 (TabOk.look tabOk (t := 3) (ti := T.t3) rfl) rfl h w
 refine EqT.run (EqT.st Tryz.underlying44 stoodRf (EqFs.cons yk (hi _ _ _ Z) (hi _ _ _ Z) (EqT.int Tryz.underlying3 a.1 b.1) (EqFs.cons yk (hi _ _ _ Z) (hi _ _ _ Z) (EqT.int Tryz.underlying3 a.2.1 b.2.1) (EqFs.cons yk (hi _ _ _ Z) (hi _ _ _ Z) (EqT.int Tryz.underlying3 a.2.2 b.2.2) EqFs.nil)))) yk w
theorem q_in {X : Cx} {L L0 tl : List HP} {c0 c : ConfM} {qa0 qa : Option Addr} {qc : Nat} (hq : IntsIn X.Fr X.w0 qa0 c0.qs) (hI : (c.qs = c0.qs ∧ qa = qa0) ∨ tl = [intH qa qc c.qs]) {Fr' : Nat → Prop} {w' : World}
  (hF : ∀ b, X.Fr b → Fr' b) (hs : St X L0 w') (hS : SatIn Fr' L w') (k : Nat) (hL : L.drop k = tl) : IntsIn Fr' w' qa c.qs := by
 rcases hI with ⟨h1, h2⟩ | h
 ·rw [h1, h2]; exact ints_of hq hF hs
 ·exact ints_sl (hS.at_ k (by rw [h] at hL; have := congrArg (fun l => l[0]?) hL; simpa [List.getElem?_drop] using this))
theorem VwIn.doc {Fr : Nat → Prop} {w : World} {V : VwR} (h : VwIn Fr w V) {a : Option Addr} {c : Nat} (hr : RwIn audC 9 Fr w a V.rows) : VwIn Fr w { V with na := a, nc := c } := ⟨h.ms, hr, h.each, h.done, h.mail, h.msl, h.rl, h.dl, h.xl⟩
theorem audM_len {c : ConfM} (hq : c.qs.length ≤ 1000) {v : AudV} (hn : v.nodes.length ≤ 1000) (hm : v.ch.ms.length ≤ 1000) (hx : v.mail.length ≤ 5000) : (audM c v).length ≤ 1011001 := by
 unfold audM
 split
 ·exact chkD_len hq hn hm hx
 ·exact Nat.zero_le _
theorem tell_spec {c0 : ConfM} {qa0 : Option Addr} {qc0 : Nat} (hq : IntsIn Fr w qa0 c0.qs) (hcc : c0.qs.length ≤ qc0) {V : VwR} (hVI : VwI Fr w V) (hT : TabF Fr w) (hW : WordsF Fr w) :
  Tri Tryz.prog 3 [.agg (c0.cells qa0 qc0).toArray, .agg (vwC V).toArray] Fr w [] (fun v L => v = .bool true ∧ L = []) := by
 refine TF 52 Tryz.func3 Z yj tabOk Z Z ?_
 refine CS (CG (VG (VB (vs := c0.cells qa0 qc0) Z fun b2 => VG (VB (vs := vwC V) Z fun b3 => VG (VN ?_)))))
 refine CS (CS ?_)
 refine VC.meetS (σ := Bool) (fun b => [(2, pV b2), (3, pV b3), (4, .bool false), (16, .bool b)]) (fun _ => [pt b3 (vwC V) 32, pt b2 (c0.cells qa0 qc0) confT]) (fun b => b = false → c0.qs.length ≤ 20 ∧ vFew V) ?_ ?_
 ·refine CG ?_
  refine xbz ?_
  by_cases g1 : (20 : Int) < (c0.qs.length : Int)
  ·refine VG (VY 13 true Z (DT g1) ?_)
   refine xbz ?_
   exact xfb
  refine VG (VY 13 false Z (DF g1) ?_)
  refine VG (VL 0 (vwC V) Z Z Z Z ?_)
  refine VG (VO.callP (fun Fr w hF hs hS => great_spec Fr w (hVI.of hF hs)) Z ?_)
  rintro _ ⟨b, rfl, hb⟩
  refine xbz ?_
  exact ⟨b, fun h => ⟨by omega, hb h⟩, sbZ, ER⟩
 rintro b hb
 refine CC Z (fun h => ?_) (fun h => CK ?_)
 ·refine xdo ?_
  refine xfd ?_
  refine xdo ?_
  exact CR (Ret.tmp 4 Z Z Imp.nil.ent ⟨rfl, Z⟩)
 obtain ⟨f1, f2⟩ := hb h
 have hV := hVI.few f2
 have hml := hV.msl; have hrl := hV.rl; have hdl := hV.dl; have hxl := hV.xl
 have hnl : V.v.nodes.length = V.rows.length := List.length_map ..
 refine CS (CS (CG (VG (VN ?_))))
 refine VC.block ?_
 refine VC.loop (σ := Nat × ConfM × Option Addr × Nat × List HP) (fun s => [(2, pV b2), (3, pV b3), (4, .bool false), (5, .int .i64 s.1)]) (fun s => pt b3 (vwC V) 32 :: pt b2 (s.2.1.cells s.2.2.1 s.2.2.2.1) confT :: s.2.2.2.2)
  (fun s => s.1 ≤ 2 ∧ s.2.1.qs.length ≤ 1000 ∧ s.2.1.qs.length ≤ s.2.2.2.1 ∧ ((s.2.1.qs = c0.qs ∧ s.2.2.1 = qa0) ∨ s.2.2.2.2 = [intH s.2.2.1 s.2.2.2.1 s.2.1.qs])) (fun s => 2 - s.1) (0, c0, qa0, qc0, [])
  ⟨Nat.zero_le _, by dsimp only; omega, hcc, .inl ⟨rfl, rfl⟩⟩ sbZ ER ?_
 rintro ⟨turn, c, qa, qc, tl⟩ ⟨ht, hql, hqc, hI⟩
 dsimp only at ht hql hqc hI ⊢
 have lA := audM_len (c := c) hql (v := V.v) yf hml hxl
 refine xdo ?_
 refine CP (p := (turn : Int) < 2) Z (fun h2 => CK ?_) (fun h2 => CX ?_)
 rotate_left
 ·refine xdo ?_
  refine xfd ?_
  refine xdo ?_
  exact CR (Ret.tmp 4 Z Z Imp.nil.ent ⟨rfl, Z⟩)
 refine xca ?_
 refine CS (CD (.take 0 (.take 1 (.take 3 (.take 4 (.only 2 (.only 5 (.only 6 (.take 7 (.take 8 .nil))))))))) yj yl ?_)
 refine AG (VA.ldA 1 (c.cells qa qc) Z Z Z Z Z ?_)
 refine AG (VA.ldA 0 (vwC V) Z Z Z Z Z ?_)
 refine AG (VA.ldA 1 (c.cells qa qc) Z Z Z Z Z ?_)
 refine AG (VA.ldA 0 (vwC V) Z Z Z Z Z ?_)
 refine AG (AO (OC (Lc := []) rfl (.refl _) (fun Fr w hF hs hS => check_spec Fr w (c := c) (q_in hq hI hF hs hS 2 rfl) trivial hqc (hV.of hF hs))) rfl (fun v L' g => by obtain ⟨_, ⟨fa, fc, rfl, rfl⟩, rfl⟩ := g; exact yar) ?_)
 rintro v L' ⟨_, ⟨fa, fc, rfl, rfl⟩, rfl⟩
 refine AG (AO (OC (Lc := []) rfl (.refl _) (fun Fr w hF hs hS => doc_spec Fr w (hV.of hF hs))) rfl (fun v L' g => by obtain ⟨_, ⟨da, dc, rfl, rfl⟩, rfl⟩ := g; exact yar) ?_)
 rintro v L' ⟨_, ⟨da, dc, rfl, rfl⟩, rfl⟩
 refine AG (AO (OC (Lc := []) rfl (.refl _) (fun Fr w hF hs hS => rcheck_spec Fr w (c := c) (q_in hq hI hF hs hS 4 rfl) hql ((hV.of hF hs).doc (RwIn.slH audC_len (hS.at_ 0 rfl))))) rfl (fun v L' g => by obtain ⟨_, ⟨ga, gc, rfl, rfl⟩, rfl⟩ := g; exact yar) ?_)
 rintro v L' ⟨_, ⟨ga, gc, rfl, rfl⟩, rfl⟩
 rw [show audM c (VwR.v { V with na := da, nc := dc }) = audM c V.v from rfl]
 generalize hA : audM c V.v = A at lA
 refine xdm ?_
 refine VC.opn 0 Z (HOpn.rl 44 ga gc A fdC_len) ?_
 rintro ⟨ra, rc, rb, rcs, rxs⟩ ⟨ok2, hv2, hx2⟩
 dsimp only at hx2
 subst hx2
 injection hv2 with e1 _ e3
 subst e1 e3
 refine VC.opn 2 Z (HOpn.rl 45 fa fc rxs fdC_len) ?_
 rintro ⟨ra1, rc1, rb1, rcs1, rxs1⟩ ⟨ok1, hv1, hx1⟩
 dsimp only at hx1
 subst hx1
 injection hv1 with e1 _ e3
 subst e1 e3
 refine xdo ?_
 refine VC.condNE (i := (rxs1.length : Int)) (j := (rxs1.length : Int)) Z (fun hs => absurd Z hs) (fun hs => CK ?_)
 refine xdo ?_
 refine VC.loop (σ := Nat) (fun k => [(2, pV b2), (3, pV b3), (4, .bool false), (5, .int .i64 turn), (6, .slice ra1 rxs1.length rc1), (7, .slice ra rxs1.length rc), (8, .int .i64 k)]) (fun _ => RL.h 45 ⟨ra1, rc1, rb1, rcs1, rxs1⟩ :: RL.h 44 ⟨ra, rc, rb, rcs, rxs1⟩ :: slH 71 9 da V.rows.length dc (flat audC V.rows) :: pt b3 (vwC V) 32 :: pt b2 (c.cells qa qc) confT :: tl)
  (fun k => k ≤ rxs1.length) (fun k => rxs1.length - k) 0 (Nat.zero_le _) sbZ ER ?_
 rintro k hk
 refine xdo ?_
 refine CP (p := (k : Int) < (rxs1.length : Int)) Z (fun h3 => CK ?_) (fun h3 => CX ?_)
 ·have hk2 : k < rxs1.length := by omega
  obtain ⟨x, hxk⟩ : ∃ x, rxs1[k]? = some x := ⟨_, GE hk2⟩
  obtain ⟨tb, tof, htb, hta, hrd⟩ := RL.Ok.ld (t := 45) (k := k) (x := x) ok1 hxk (fdC_len x)
  obtain ⟨ub, uof, hub, hua, hud⟩ := RL.Ok.ld (t := 44) (k := k) (x := x) ok2 hxk (fdC_len x)
  dsimp only at hta hua
  subst hta hua
  refine CS (VC.block (CS ?_))
  refine xdh ?_
  refine xdm ?_
  refine AG (AI Z (light_idx k Z Z Z Z Z Z hk2) ?_)
  refine AG (VA.load Z Z Z ((hrd 0 Z).1 _ Z Z) ?_)
  refine xdm ?_
  refine AG (AI Z (light_idx k Z Z Z Z Z Z hk2) ?_)
  refine AG (VA.load Z Z Z ((hud 1 Z).1 _ Z Z) ?_)
  refine AG (AI Z (light_neS guardRf Z Z (rf_eq x x)) ?_)
  refine xdm ?_
  refine CC Z (fun h4 => ?_) (fun h4 => CK ?_)
  ·rw [(fdEqB_iff x x).2 rfl] at h4; cases h4
  refine zff ?_
  exact ⟨k + 1, hk2, by dsimp only; omega, sbZ, ER⟩
 refine xdo ?_
 refine VG (VL 4 (c.cells qa qc) Z Z Z Z ?_)
 refine VG (VK (Lc := []) (fun Fr w hF hs hS => rfit_spec Fr w c qa qc (q_in hq hI hF hs hS 5 Z)) Z Z ?_)
 rintro _ _ ⟨qa2, qc2, _, hqc2, rfl, rfl⟩
 refine VG (VT (vs := (fitM c).cells qa2 qc2) (cs' := (fitM c).cells qa2 qc2) 5 Z Z Z Z (NR _) Z Z Z ?_)
 refine zff ?_
 exact ⟨(turn + 1, fitM c, qa2, qc2, [intH qa2 qc2 (fitM c).qs]), ⟨by dsimp only; omega, by have := (qFit_len c.qs).2; show (qFit c.qs).length ≤ 1000; omega, hqc2, .inr Z⟩, by dsimp only; omega, sbZ, (pkZ [4, 4, 0]).ent⟩
end Au
end Go.Proofs.YtkpambabfalaiaaGreatDoor
