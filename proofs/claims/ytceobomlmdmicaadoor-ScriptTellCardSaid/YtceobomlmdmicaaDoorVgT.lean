/- The engine, part T: from a contract of a law's own function to its row, where the row lists package-level variables. No program is named; nothing is assumed. -/
import Derived.Test.YtceobomlmdmicaaDoorVgL
import Derived.Test.YtceobomlmdmicaaDoorVgS
import Derived.LaidMore
import Derived.MakeChecks
import Derived.Stop.Joined
namespace Go.Proofs.YtceobomlmdmicaaDoor.Vg
open Go Go.ChangeShapes Go.WideShapes Go.ChangeAt Go.RowKit

theorem law_returnsL {H : Type} {enc : TypeId × Value → H} {C : Checked} {os : Os} {f : FuncId} {fn : Func} {s : ChangeSpec} {conds : List PathCond} {laid : List (String × DataW Unit)}
    (own : ownKnob C.prog.godebug = none) (started : os.Started) (noInit : C.prog.inits.idxOf? f = none) (hfn : C.prog.funcs[f]? = some fn)
    (witness : ∃ (w : World) (tape : Tape) (i : Input), w.os = os ∧ (w.forCall tape i).Shaped C.prog ∧ i.vars = [] ∧ Input.okWide C.prog (w.forCall tape i) .any w.heap.size f i ∧
      ((s.pre enc C.prog fn conds false (w.forCall tape i).memory i.args ∧ laidMetH C.prog laid (w.forCall tape i).memory) ∧ sizedMet enc C.prog fn (OpenSpec.ofChange s) false (w.forCall tape i).memory i.args) ∧
      ({} : Assume).holds C.prog (lone (Frame.enter C.prog f i.args .normal) [] (w.forCall tape i)))
    (hl : laidOutB C.prog = true) (hts : ∀ t ∈ fn.params.toList, C.prog.readableRec t = true ∧ t < C.prog.types.size)
    (hv : s.vars = []) {tb : TypeId} (hres : fn.resultTypes = #[tb]) (hbool : C.prog.underlying tb = some .bool)
    (hs : ∀ ds : List (DataW H), ds.length = fn.params.toList.length → s.fn H (ds ++ []) = { results := [.lit (.bool true)], args := ds })
    (walk : ∀ (W : World) (base : Nat) (args : Array Value) (ds : List (DataW H)) (ps : List MemPlace), laidMetH C.prog laid W →
      (∀ (j : Nat) t v, fn.params[j]? = some t → args[j]? = some v → Value.okWide C.prog W .any base t v) →
      DataW.TrodAll enc C.prog W 0 (fun _ => true) true fn.params.toList args.toList ds ps → W.noneFrozen ps →
      (DataW.weightsEach C.prog fn.params.toList ds).all (· ≤ reachBytes) = true →
      Tri C.prog f args.toList (fun b => b < W.heap.size) W [] (fun v _ => v = .bool true)) :
    ReturnsInHanded {} C os f .any (fun w args => (s.pre enc C.prog fn conds false w args ∧ laidMetH C.prog laid w) ∧ sizedMet enc C.prog fn (OpenSpec.ofChange s) false w args) (s.post enc C.prog fn false true false false) := by
  refine returnsInHanded_of_change_and (X := fun w _ => laidMetH C.prog laid w) (fun _ _ _ hh h => h.of_heap hh) own started noInit hfn witness fun W base args ds gs before hval hW _ hwt hL _ => ?_
  have hW2 := hW
  obtain ⟨p, q, hA, hV, rfl, hfz, _⟩ := hW2
  rw [hv] at hV
  obtain ⟨rfl, rfl⟩ := trodVars_none hV
  have hvt : s.plain.varTypes C.prog = [] := by simp [ChangeSpec.plain, hv, DataSpec.varTypes]
  rw [hvt] at hwt
  simp only [List.append_nil] at hwt hfz
  have T := walk W base args ds p hL hval hA hfz hwt
  have := T.calls (fun _ h => h) Sat.nil
  simp only [Array.toArray_toList] at this
  exact Calls.mono this fun e W' ⟨v, L', he, h1, _, hk⟩ => ⟨v, he, by subst h1; exact law_post hl hts hv hres hbool hs hW hk.below⟩

theorem laidMet_tail {P : Program} {W : World} {x : String × DataW Unit} {l : List (String × DataW Unit)} (h : laidMet P (x :: l) W) : laidMet P l W := by
  obtain ⟨ps, ⟨g, t, cs, fuel, p, q, _, _, _, _, hr, rfl⟩, hn, hall⟩ := h
  exact ⟨q, hr, (List.nodup_append.1 hn).2.1, fun b off h => hall b off (List.mem_append.2 (.inr h))⟩
/-- A listed table of integers. -/
theorem tabIn_of {P : Program} {W : World} {laid : List (String × DataW Unit)} {nm : String} {k : IntKind} {zs : List Int} {g : Nat} {t e : TypeId} {n : Nat} (i : Nat) (hh : (laid.all fun x => x.2.handleName?.isNone) = true)
    (hm : laid[i]? = some (nm, Lib.tabData k zs)) (hg : P.globalNamed nm = some g) (hty : (P.globals[g]?).map (·.type) = some t) (ht : P.underlying t = some (.array n e)) (he : P.underlying e = some (.int k)) (hce : P.cellsOf e = 1) (hct : P.cellsOf t = n)
    (h : laidMetH P laid W) : TabIn P (fun b => b < W.heap.size) W nm k zs := by
  rw [MakeChecks.laidMetH_plain _ _ _ hh] at h
  have key : ∀ {l : List (String × DataW Unit)} {i : Nat}, laidMet P l W → l[i]? = some (nm, Lib.tabData k zs) → Lib.TabIs P W nm k zs := by
    intro l
    induction l with
    | nil => intro i _ hm; simp at hm
    | cons x l ih =>
      intro i hv hm
      cases i with
      | zero =>
        obtain rfl := Option.some.inj hm
        exact Lib.tabIs_of_head hg hty ht he hce hct hv
      | succ i => exact ih (laidMet_tail hv) (by simpa using hm)
  have ht2 := key h hm
  refine ⟨⟨g, hg, ?_⟩, ht2⟩
  unfold Lib.TabIs World.var? at ht2
  rw [hg] at ht2
  simp only [Option.bind_some] at ht2
  rcases Nat.lt_or_ge g W.heap.size with h' | h'
  · exact h'
  · rw [Array.getElem?_eq_none h'] at ht2; simp at ht2
end Go.Proofs.YtceobomlmdmicaaDoor.Vg
