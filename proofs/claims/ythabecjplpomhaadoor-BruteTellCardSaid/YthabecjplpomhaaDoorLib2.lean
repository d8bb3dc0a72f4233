/- What is taken off the library's shelf, as contracts of the engine: numbers as texts, texts that grow, copies of slices and of maps, a map's keys in order. No condition but the table of powers of ten, where a number is put. -/
import Derived.Test.YthabecjplpomhaaDoorVgW
import Derived.Test.YthabecjplpomhaaDoorTab
import Derived.Test.YthabecjplpomhaaDoorShelf
import Derived.Test.YthabecjplpomhaaDoorBld
import Derived.Sort.KeysCollected
import Derived.StringKeys
namespace Go.Proofs.YthabecjplpomhaaDoor.LibC
open Go Go.Proofs.YthabecjplpomhaaDoor.Vg Go.Proofs.YthabecjplpomhaaDoor.T Go.Shelf
set_option linter.unusedVariables false
set_option linter.unusedSimpArgs false

def TabF (Fr : Nat → Prop) (w : World) : Prop := TabIn Tryd.prog Fr w "internal/strconv.uint64pow10" .u64 Lib.pow10Tab
theorem TabF.st {X : Cx} {L : List HP} (hP : X.P = Tryd.prog) (h : TabF X.Fr X.w0) {Fr' : Nat → Prop} {w : World} (hF : ∀ b, X.Fr b → Fr' b) (hw : St X L w) : TabF Fr' w := TabIn.keep h hF hw.keep

theorem call_itoa : Callable Tryd.prog 40 := ⟨_, Tryd.func40, by kernel_rfl, by kernel_rfl⟩
theorem call_write : Callable Tryd.prog 41 := ⟨_, Tryd.func41, by kernel_rfl, by kernel_rfl⟩
theorem call_string : Callable Tryd.prog 42 := ⟨_, Tryd.func42, by kernel_rfl, by kernel_rfl⟩

/-- A number's text. -/
def numT (n : Int) : ByteArray := ⟨(Lib.itoa n).toArray⟩
theorem itoa_spec (Fr : Nat → Prop) (w : World) (n : Int) (h0 : -9223372036854775808 ≤ n) (h1 : n ≤ 9223372036854775807) (ht : TabF Fr w) :
    Tri Tryd.prog 40 [.int .i64 n] Fr w [] (fun v L => v = .string (numT n) ∧ L = []) :=
  Tri.of_grow call_itoa (Any.strconv_Itoa Tryd.laysM171 n h0 h1 w ht.is)

/-- A builder that holds a text. -/
def txtH (B b : Nat) (s : ByteArray) : HP := bldF 92 5 B b (Lib.strCells s)
theorem strCells_cat (s t : ByteArray) : Lib.strCells s ++ Lib.strCells t = Lib.strCells (s ++ t) := by simp [Lib.strCells]
theorem strCells_len (s : ByteArray) : (Lib.strCells s).length = s.size := by simp [Lib.strCells]
theorem write_spec (Fr : Nat → Prop) (w : World) (B b : Nat) (s t : ByteArray) (hF : ∀ x, Fr x → x < B ∨ NotB 5 w x) (hlen : s.size + t.size ≤ 140737488355328) :
    Tri Tryd.prog 41 [.pointer (some ⟨b, 0, none⟩), .string t] Fr w [txtH B b s] (fun v L => v = .tuple #[.int .i64 t.size, .nilIface] ∧ L = [txtH B b (s ++ t)]) :=
  ⟨call_write, fun hl hs => by
    obtain ⟨h1, h2, h0⟩ := bldF_is hs
    exact Calls.mono (Any.Builder_WriteString_k Tryd.bld166 Tryd.bldX166 B b _ t w h1 (by rw [strCells_len]; exact hlen) h2) fun e w' ⟨h3, h4, h5, h6⟩ =>
      ⟨_, _, h3, ⟨rfl, rfl⟩, by rw [strCells_cat] at h4; exact bldF_of hF h6 h0 h4, keep_others hF h0 h5 h6⟩⟩
theorem string_spec (Fr : Nat → Prop) (w : World) (B b : Nat) (s : ByteArray) (hF : ∀ x, Fr x → x < B ∨ NotB 5 w x) :
    Tri Tryd.prog 42 [.pointer (some ⟨b, 0, none⟩)] Fr w [txtH B b s] (fun v L => v = .string s ∧ L = []) :=
  ⟨call_string, fun hl hs => by
    obtain ⟨h1, h2, h0⟩ := bldF_is hs
    exact Calls.mono (Any.Builder_String_any_k Tryd.bld169 Tryd.bldX169 B b s.data.toList w h1 h2) fun e w' ⟨h3, _, h4, h5⟩ =>
      ⟨_, _, h3, ⟨by simp, rfl⟩, Sat.nil, keep_others hF h0 h4 h5⟩⟩
section
variable {X : Cx} {ops : Array Oper} {G : GS} {l : List Oper} {e : Env} {L : List HP} {K : Env → List HP → Prop}
  {dst : Option Tmp} {ty : TypeId} {pos : String} {after : Array Edge} {guard : Option (Nat × Bool)}
theorem low_or {L' : List HP} (hnb : ∀ H ∈ L', NB 5 H) {Fl : List Nat} {w : World} (hw : St X L w) (hs : Sats L' Fl w) : ∀ x, (X.Fr x ∨ x ∈ Fl) → x < X.w0.heap.size ∨ NotB 5 w x := fun x hx =>
  hx.elim (fun h => .inl (hw.low x h)) fun h => .inr (Sats.nb hnb hs x h)
/-- Written on, beside other pieces. -/
theorem VO.write {args : Array Operand} {tys : Array TypeId} {b : Nat} {s t : ByteArray} (hP : X.P = Tryd.prog) (i : Nat) (hL : L[i]? = some (txtH X.w0.heap.size b s)) (hnb : ∀ H ∈ L.eraseIdx i, NB 5 H) (hlen : s.size + t.size ≤ 140737488355328)
    (hargs : evs e args.toList = some [.pointer (some ⟨b, 0, none⟩), .string t])
    (hk : VO X ops G l (putE dst (.tuple #[.int .i64 t.size, .nilIface]) e) (L.set i (txtH X.w0.heap.size b (s ++ t))) K)
    (hg : gOn ops G guard = some true := by rfl) (hd : dstOk X.n dst = true := by rfl) (hf : gFree G dst = true := by rfl) :
    VO X ops G (⟨dst, .call ⟨.value (.func 41), args, tys⟩, ty, pos, after, guard⟩ :: l) e L K :=
  VO.opx (OpT.callXAt (ψ := fun v H' => v = .tuple #[.int .i64 t.size, .nilIface] ∧ H' = txtH X.w0.heap.size b (s ++ t)) i hL (fun Fl w hw hs => hP ▸ write_spec _ w _ b s t (low_or hnb hw hs) hlen) hargs (fun v L1 h => ⟨_, h.2, h.1, rfl⟩))
    (fun v L' ⟨H', ⟨h1, h2⟩, h3⟩ => by subst h1; subst h2; subst h3; exact hk) hg hd hf
/-- What was written; the builder is given up. -/
theorem VO.text {args : Array Operand} {tys : Array TypeId} {b : Nat} {s : ByteArray} (hP : X.P = Tryd.prog) (i : Nat) (hL : L[i]? = some (txtH X.w0.heap.size b s)) (hnb : ∀ H ∈ L.eraseIdx i, NB 5 H)
    (hargs : evs e args.toList = some [.pointer (some ⟨b, 0, none⟩)])
    (hk : VO X ops G l (putE dst (.string s) e) (L.eraseIdx i) K)
    (hg : gOn ops G guard = some true := by rfl) (hd : dstOk X.n dst = true := by rfl) (hf : gFree G dst = true := by rfl) :
    VO X ops G (⟨dst, .call ⟨.value (.func 42), args, tys⟩, ty, pos, after, guard⟩ :: l) e L K :=
  VO.opx (OpT.callX hargs (perm_eraseIdx hL) (Lc := [txtH X.w0.heap.size b s]) (R := fun v L => v = .string s ∧ L = []) (fun Fl w hw hs => hP ▸ string_spec _ w _ b s (low_or hnb hw hs)))
    (fun v L' ⟨L1, ⟨h1, h2⟩, h3⟩ => by subst h1; subst h2; subst h3; exact hk) hg hd hf
end

/-! ### Slices that a library function made -/
theorem owns_sl {Fr : Nat → Prop} {B el n : Nat} {v : Value} {xs : List Value} {w : World} (hF : ∀ x, Fr x → x < B) (h : w.ownsRow B el 1 v n xs) : ∃ a cap, v = .slice a n cap ∧ n ≤ cap ∧ Sat Fr [slH el 1 a n cap xs] w := by
  obtain ⟨h1, ⟨rfl, rfl⟩ | ⟨g, cap, cur, rfl, h2, h3, h4, h5, h6, h7⟩⟩ := h
  · exact ⟨none, 0, rfl, Nat.le_refl _, [], ⟨[], [], rfl, ⟨h1, .inl ⟨rfl, rfl, rfl, rfl⟩⟩, rfl⟩, .nil, fun _ h => by cases h⟩
  · have hlt : g < w.heap.size := (Array.getElem?_eq_some_iff.1 h3).1
    have e : xs ++ cur.toList.drop (n * 1) = cur.toList := by rw [← h7, List.take_append_drop]
    refine ⟨_, cap, rfl, h4, [g], ⟨[g], [], rfl, ⟨h1, .inr ⟨g, cur.toList.drop (n * 1), rfl, rfl, h4, ?_, ?_⟩⟩, rfl⟩, by simp, fun b hb => ?_⟩
    · rw [e]; simpa using h6
    · rw [e]; simpa using h3
    · simp only [List.mem_singleton] at hb; subst hb
      exact ⟨fun h => by have := hF _ h; omega, hlt⟩
theorem Tri.of_owns {P : Program} {f : FuncId} {args : List Value} {Fr : Nat → Prop} {w : World} {L : List HP} {el : Nat} {n : Nat} {xs : List Value} (hc : Callable P f)
    (h : Sat Fr L w → Calls P f args.toArray w fun e w' => ∃ v, e = .returned v ∧ w'.ownsRow w.heap.size el 1 v n xs ∧ RowKit.Below w.heap.size w w') :
    Tri P f args Fr w L (fun v L => ∃ a cap, v = .slice a n cap ∧ n ≤ cap ∧ L = [slH el 1 a n cap xs]) :=
  ⟨hc, fun hl hs => Calls.mono (h hs) fun e w' ⟨v, h1, h2, h3⟩ => by
    obtain ⟨a, cap, h4, h5, h6⟩ := owns_sl hl h2
    exact ⟨v, _, h1, ⟨a, cap, h4, h5, rfl⟩, h6, keep_below hl h3⟩⟩

theorem call_cloneI : Callable Tryd.prog 29 := ⟨_, Tryd.func29, by kernel_rfl, by kernel_rfl⟩
/-- A copy of a slice of integers. -/
theorem cloneI_spec (Fr : Nat → Prop) (w : World) {a : Option Addr} {cap : Nat} {xs : List Int} (h : RwIn (fun x : Int => [Value.int .i64 x]) 1 Fr w a xs) (hl : xs.length * 8 ≤ 140737488355328) :
    Tri Tryd.prog 29 [.slice a xs.length cap] Fr w [] (fun v L => ∃ a' cap', v = .slice a' xs.length cap' ∧ xs.length ≤ cap' ∧ L = [slH 3 1 a' xs.length cap' (xs.map (Value.int .i64))]) := by
  refine Tri.of_owns call_cloneI fun _ => ?_
  by_cases hx : xs = []
  · subst hx
    cases a with
    | none => exact Calls.mono (Any.slices_Clone_int_nil Tryd.cloneI 0 cap w) fun e w' ⟨h1, h2⟩ => ⟨_, h1, ⟨rfl, .inl ⟨rfl, rfl⟩⟩, by subst h2; exact RowKit.Below.refl _ _⟩
    | some a => exact Calls.mono (Any.slices_Clone_int_zero Tryd.cloneI a cap w) fun e w' ⟨v, h1, h2, _, h3⟩ => ⟨v, h1, h2, h3⟩
  · obtain ⟨b, off, rfl, hb, hc⟩ := h.at_ hx
    refine Calls.mono (Any.slices_Clone_int Tryd.cloneI b off xs.length cap xs w (Nat.le_refl _) hl (fun j hj => ?_)) fun e w' ⟨v, h1, h2, _, h3⟩ => ⟨v, h1, ?_, h3⟩
    · have := hc j xs[j] (by simp [hj]) 0 _ rfl
      simp only [Nat.mul_one, Nat.add_zero] at this
      rw [this]; simp [hj]
    · rw [List.take_of_length_le (Nat.le_refl _)] at h2; exact h2

/-! ### Maps -/
theorem call_cloneM : Callable Tryd.prog 43 := ⟨_, Tryd.func43, by kernel_rfl, by kernel_rfl⟩
theorem cloneM_spec {κ α : Type} {c : κ → Value} {d : α → Value} {b : Nat} {xs : List (κ × α)} (Fr : Nat → Prop) (w : World) (h : MapBlk Fr w c d b xs) :
    Tri Tryd.prog 43 [.map (some b)] Fr w [] (fun v L => ∃ b', v = .map (some b') ∧ L = [mapH c d b' xs]) :=
  ⟨call_cloneM, fun hl hs => by
    obtain ⟨es, clock, h1, h2, h3⟩ := h.at_
    exact Calls.mono (AnyW.maps_Clone Tryd.cloneM b es clock w h1) fun e w' ⟨h4, h5⟩ => ⟨_, _, h4, ⟨_, rfl, rfl⟩, by
      subst h5
      exact ⟨Sat.alloc hl _ (mapH c d w.heap.size xs) ⟨rfl, es, clock, heap_alloc_new w _, h2, h3⟩ Sat.nil, Keep.alloc hl _⟩⟩⟩

def keyR : Value → Option (DataW Unit × List MemPlace) := fun _ => some (.lit (.bool true), [])
theorem owns_of {α : Type} {d : α → Value} {b : Nat} {S : List (ByteArray × α)} {w : World} (h : MapAt strV d b S w) (hs : ∀ x ∈ S, x.1.size ≤ maxLen) (hl : S.length ≤ maxLen) :
    ∃ D : DataW Unit, w.ownsMap Tryd.prog 9 keyR b S.length D ∧ (strKeys D).Perm (S.map fun x => x.1.data.toList) ∧ Maps.size D = S.length := by
  obtain ⟨es, clock, h1, h2, h3⟩ := h
  have hlen : es.size = S.length := by have := congrArg List.length h2; simpa using this
  have hrd : ∀ e ∈ es.toList, ∃ x ∈ S, e.key = strV x.1 ∧ WideElems.rd Tryd.prog 9 keyR e = some (Lit.string x.1.data.toList, (DataW.lit (.bool true) : DataW Unit)) := by
    intro e he
    have hm : (e.key, e.val) ∈ es.toList.map (fun e => (e.key, e.val)) := List.mem_map.2 ⟨e, he, rfl⟩
    rw [h2] at hm
    obtain ⟨x, hx, hxe⟩ := List.mem_map.1 hm
    have hk : e.key = strV x.1 := (congrArg Prod.fst hxe).symm
    refine ⟨x, hx, hk, ?_⟩
    unfold WideElems.rd
    rw [hk, strV, _root_.Go.WideMaps.keyOf_string_mk Tryd.underlying9 (hs x hx)]
    rfl
  refine ⟨_, ⟨es, clock, h1, ⟨by rw [hlen]; exact hl, h3, fun e he => ?_⟩, by rw [hlen]; exact Nat.le_refl _, rfl⟩, ?_, ?_⟩
  · obtain ⟨x, _, _, h⟩ := hrd e he
    exact ⟨_, h⟩
  · show ((((es.toList.map (WideElems.rg Tryd.prog 9 keyR)).foldr DataW.insert []).map fun p => strOf p.1)).Perm _
    refine ((WideShapes.sorted_perm _).map _).trans (List.Perm.of_eq ?_)
    rw [List.map_map]
    apply List.ext_getElem?
    intro i
    have hi := congrArg (fun l => l[i]?) h2
    simp only [List.getElem?_map] at hi ⊢
    cases he : es.toList[i]? with
    | none =>
      rw [he] at hi
      cases hx : S[i]? with
      | none => rfl
      | some x => rw [hx] at hi; cases hi
    | some e =>
      rw [he] at hi
      cases hx : S[i]? with
      | none => rw [hx] at hi; cases hi
      | some x =>
        rw [hx] at hi
        simp only [Option.map_some, Option.some.injEq, Prod.mk.injEq] at hi
        obtain ⟨y, _, hy, hr⟩ := hrd e (List.mem_of_getElem? he)
        have hyx : y.1 = x.1 := by
          have := hy.symm.trans hi.1
          simpa [strV] using this
        simp only [Option.map_some, Function.comp_apply, WideElems.rg, hr, Option.getD_some, strOf, hyx]
  · show ((es.toList.map (WideElems.rg Tryd.prog 9 keyR)).foldr DataW.insert []).length = _
    rw [(WideShapes.sorted_perm _).length_eq, List.length_map, Array.length_toList, hlen]

/-- A map's keys, in order. -/
def sortedKeys {α : Type} (S : List (ByteArray × α)) : List (List UInt8) := (S.map fun x => x.1.data.toList).mergeSort (fun x y => decide (x ≤ y))
theorem call_keys : Callable Tryd.prog 45 := ⟨_, Tryd.func45, by kernel_rfl, by kernel_rfl⟩
theorem call_sorted : Callable Tryd.prog 44 := ⟨_, Tryd.func44, by kernel_rfl, by kernel_rfl⟩
theorem keys_spec (Fr : Nat → Prop) (w : World) (b : Nat) :
    Tri Tryd.prog 45 [.map (some b)] Fr w [] (fun v L => ∃ q, v = .func (.func 51) #[] #[.pointer (some ⟨q, 0, none⟩)] ∧ L = [pt q [.map (some b)] 77]) :=
  ⟨call_keys, fun hl hs => by
    refine (callsIn_wide (n := 5)).1 ((AnyZ.keys_in Tryd.keysM Fence.wide 5 trivial rfl (some b) w).mono ?_)
    rintro e w' ⟨h1, h2⟩
    refine ⟨_, _, h1, ⟨w.heap.size, rfl, rfl⟩, ?_, ?_⟩
    · subst h2
      exact Sat.alloc hl _ (pt w.heap.size [.map (some b)] 77) ⟨rfl, heap_alloc_new w _⟩ Sat.nil
    · subst h2; exact Keep.alloc hl _⟩
theorem sorts_in (m : Nat) : AnyZ.SortsIn Tryd.prog Tryd.sortedS_ren Fence.wide m :=
  ⟨fun blk off cap ss W hH hblk hsz => callsIn_wide.2 (AnyM.slices_Sort_string Tryd.sortS blk off cap ss W hH hblk hsz),
   fun p cap W => callsIn_wide.2 (AnyM.slices_Sort_string_none Tryd.sortS p cap W)⟩
set_option maxRecDepth 100000 in
theorem sorted_spec {α : Type} {d : α → Value} {b q : Nat} {S : List (ByteArray × α)} (Fr : Nat → Prop) (w : World) (h : MapBlk Fr w strV d b S) (hs : ∀ x ∈ S, x.1.size ≤ maxLen) (hl : S.length ≤ 1000000) :
    Tri Tryd.prog 44 [.func (.func 51) #[] #[.pointer (some ⟨q, 0, none⟩)]] Fr w [pt q [.map (some b)] 77]
      (fun v L => ∃ a cap, v = .slice a S.length cap ∧ S.length ≤ cap ∧ L = [slH 9 1 a S.length cap ((sortedKeys S).map Proofs.encStr)]) := by
  refine Tri.of_owns call_sorted fun hsat => ?_
  obtain ⟨F, ⟨ids, G, hF, ⟨rfl, hq⟩, _⟩, hn, hb⟩ := hsat
  have hqlt : q < w.heap.size := (Array.getElem?_eq_some_iff.1 hq).1
  have hmx : maxLen = 9223372036854775807 := by decide
  obtain ⟨D, hown, hperm, hsz⟩ := owns_of h.at_ hs (by rw [hmx]; omega)
  have hseq : SeqGives Fence.wide 2 Tryd.prog 51 #[.pointer (some ⟨q, 0, none⟩)] Proofs.encStr (fun ss => ss.Perm (strKeys D)) (Maps.size D) w :=
    AnyZ.keys_gives (ρ := Tryd.keysM_ren) { Tryd.keysM with } Fence.wide _ trivial rfl (by omega) q b S.length D w hqlt (by rw [cell_of_row w q 0 _ _ (0, 0) hq]; rfl) hown
  have cS := AnyZ.sorted_in Tryd.sortedS Fence.wide 5 trivial trivial trivial trivial rfl (by omega) (sorts_in _) (enters_of Tryd.func50 (by kernel_rfl) rfl) 51 #[.pointer (some ⟨q, 0, none⟩)] trivial (enters_of Tryd.func51 (by kernel_rfl) rfl) _ _ (by rw [hsz, hmx]; omega) (by rw [hsz]; omega) _ hseq
  refine (callsIn_wide (n := 5)).1 (cS.mono ?_)
  rintro e w' ⟨v, ss, h1, h2, h3, _, h4⟩
  have hss : ss.Perm (S.map fun x => x.1.data.toList) := h2.trans hperm
  have hlen : ss.length = S.length := by rw [hss.length_eq, List.length_map]
  refine ⟨v, h1, ?_, h4⟩
  have e1 : ss.mergeSort (fun x y => decide (x ≤ y)) = sortedKeys S := mergeSort_of_perm hss
  rw [e1, hlen] at h3
  exact h3
end Go.Proofs.YthabecjplpomhaaDoor.LibC
