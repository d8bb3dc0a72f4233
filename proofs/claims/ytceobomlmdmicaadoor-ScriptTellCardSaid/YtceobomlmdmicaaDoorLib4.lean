/- What is taken off the library's shelf for texts, as contracts of the engine: numbers as texts and back, texts that grow, what is cut and split. No condition but what the listed variables hold. -/
import Derived.Test.YtceobomlmdmicaaDoorVgW
import Derived.Test.YtceobomlmdmicaaDoorTab
import Derived.Test.YtceobomlmdmicaaDoorShelf
import Derived.Test.YtceobomlmdmicaaDoorBld
import Derived.Lib.UnsafeStr
namespace Go.Proofs.YtceobomlmdmicaaDoor.LibC
open Go Go.Proofs.YtceobomlmdmicaaDoor.Vg Go.Proofs.YtceobomlmdmicaaDoor.T Go.Shelf
set_option linter.unusedVariables false
set_option linter.unusedSimpArgs false

def TabF (Fr : Nat → Prop) (w : World) : Prop := TabIn Tryd.prog Fr w "internal/strconv.uint64pow10" .u64 Lib.pow10Tab
theorem TabF.st {X : Cx} {L : List HP} (hP : X.P = Tryd.prog) (h : TabF X.Fr X.w0) {Fr' : Nat → Prop} {w : World} (hF : ∀ b, X.Fr b → Fr' b) (hw : St X L w) : TabF Fr' w := TabIn.keep h hF hw.keep

theorem call_itoa : Callable Tryd.prog 21 := ⟨_, Tryd.func21, by kernel_rfl, by kernel_rfl⟩
theorem call_write : Callable Tryd.prog 20 := ⟨_, Tryd.func20, by kernel_rfl, by kernel_rfl⟩
theorem call_writeB : Callable Tryd.prog 23 := ⟨_, Tryd.func23, by kernel_rfl, by kernel_rfl⟩
theorem call_string : Callable Tryd.prog 24 := ⟨_, Tryd.func24, by kernel_rfl, by kernel_rfl⟩

/-- A number's text. -/
def numT (n : Int) : ByteArray := ⟨(Lib.itoa n).toArray⟩
theorem itoa_spec (Fr : Nat → Prop) (w : World) (n : Int) (h0 : -9223372036854775808 ≤ n) (h1 : n ≤ 9223372036854775807) (ht : TabF Fr w) :
    Tri Tryd.prog 21 [.int .i64 n] Fr w [] (fun v L => v = .string (numT n) ∧ L = []) :=
  Tri.of_grow call_itoa (Any.strconv_Itoa Tryd.laysM171 n h0 h1 w ht.is)

/-- A builder that holds a text. -/
def txtH (B b : Nat) (s : ByteArray) : HP := bldF 57 5 B b (Lib.strCells s)
theorem strCells_cat (s t : ByteArray) : Lib.strCells s ++ Lib.strCells t = Lib.strCells (s ++ t) := by simp [Lib.strCells]
theorem strCells_len (s : ByteArray) : (Lib.strCells s).length = s.size := by simp [Lib.strCells]
theorem write_spec (Fr : Nat → Prop) (w : World) (B b : Nat) (s t : ByteArray) (hF : ∀ x, Fr x → x < B ∨ NotB 5 w x) (hlen : s.size + t.size ≤ 140737488355328) :
    Tri Tryd.prog 20 [.pointer (some ⟨b, 0, none⟩), .string t] Fr w [txtH B b s] (fun v L => v = .tuple #[.int .i64 t.size, .nilIface] ∧ L = [txtH B b (s ++ t)]) :=
  ⟨call_write, fun hl hs => by
    obtain ⟨h1, h2, h0⟩ := bldF_is hs
    exact Calls.mono (Any.Builder_WriteString_k Tryd.bld166 Tryd.bldX166 B b _ t w h1 (by rw [strCells_len]; exact hlen) h2) fun e w' ⟨h3, h4, h5, h6⟩ =>
      ⟨_, _, h3, ⟨rfl, rfl⟩, by rw [strCells_cat] at h4; exact bldF_of hF h6 h0 h4, keep_others hF h0 h5 h6⟩⟩
theorem writeB_spec (Fr : Nat → Prop) (w : World) (B b : Nat) (s : ByteArray) (c : UInt8) (hF : ∀ x, Fr x → x < B ∨ NotB 5 w x) (hlen : s.size + 1 ≤ 140737488355328) :
    Tri Tryd.prog 23 [.pointer (some ⟨b, 0, none⟩), .int .u8 (c.toNat : Int)] Fr w [txtH B b s] (fun v L => v = .nilIface ∧ L = [txtH B b (s ++ ⟨#[c]⟩)]) :=
  ⟨call_writeB, fun hl hs => by
    obtain ⟨h1, h2, h0⟩ := bldF_is hs
    exact Calls.mono (Any.Builder_WriteByte_k Tryd.bld167 Tryd.bldX167 B b _ (c.toNat : Int) w h1 (by rw [strCells_len]; exact hlen) h2) fun e w' ⟨h3, h4, h5, h6⟩ =>
      ⟨_, _, h3, ⟨rfl, rfl⟩, by
        have e1 : Lib.strCells s ++ [Value.int .u8 (c.toNat : Int)] = Lib.strCells (s ++ ⟨#[c]⟩) := by rw [← strCells_cat]; rfl
        rw [e1] at h4; exact bldF_of hF h6 h0 h4, keep_others hF h0 h5 h6⟩⟩
theorem string_spec (Fr : Nat → Prop) (w : World) (B b : Nat) (s : ByteArray) (hF : ∀ x, Fr x → x < B ∨ NotB 5 w x) :
    Tri Tryd.prog 24 [.pointer (some ⟨b, 0, none⟩)] Fr w [txtH B b s] (fun v L => v = .string s ∧ L = []) :=
  ⟨call_string, fun hl hs => by
    obtain ⟨h1, h2, h0⟩ := bldF_is hs
    exact Calls.mono (Any.Builder_String_any_k Tryd.bld169 Tryd.bldX169 B b s.data.toList w h1 h2) fun e w' ⟨h3, _, h4, h5⟩ =>
      ⟨_, _, h3, ⟨by simp, rfl⟩, Sat.nil, keep_others hF h0 h4 h5⟩⟩
section
variable {X : Cx} {ops : Array Oper} {G : GS} {l : List Oper} {e : Env} {L : List HP} {K : Env → List HP → Prop}
  {dst : Option Tmp} {ty : TypeId} {pos : String} {after : Array Edge} {guard : Option (Nat × Bool)}
theorem low_or {L' : List HP} (hnb : ∀ H ∈ L', NB 5 H) {Fl : List Nat} {w : World} (hw : St X L w) (hs : Sats L' Fl w) : ∀ x, (X.Fr x ∨ x ∈ Fl) → x < X.w0.heap.size ∨ NotB 5 w x := fun x hx =>
  hx.elim (fun h => .inl (hw.low x h)) fun h => .inr (Sats.nb hnb hs x h)
/-- Written on, beside other pieces. -/
theorem VO.write {args : Array Operand} {tys : Array TypeId} {b : Nat} {s t : ByteArray} (hP : X.P = Tryd.prog) (i : Nat) (hL : L[i]? = some (txtH X.w0.heap.size b s)) (hnb : ∀ H ∈ L.eraseIdx i, NB 5 H) (hlen : s.size + t.size ≤ 140737488355328)
    (hargs : evs e args.toList = some [.pointer (some ⟨b, 0, none⟩), .string t])
    (hk : VO X ops G l (putE dst (.tuple #[.int .i64 t.size, .nilIface]) e) (L.set i (txtH X.w0.heap.size b (s ++ t))) K)
    (hg : gOn ops G guard = some true := by rfl) (hd : dstOk X.n dst = true := by rfl) (hf : gFree G dst = true := by rfl) :
    VO X ops G (⟨dst, .call ⟨.value (.func 20), args, tys⟩, ty, pos, after, guard⟩ :: l) e L K :=
  VO.opx (OpT.callXAt (ψ := fun v H' => v = .tuple #[.int .i64 t.size, .nilIface] ∧ H' = txtH X.w0.heap.size b (s ++ t)) i hL (fun Fl w hw hs => hP ▸ write_spec _ w _ b s t (low_or hnb hw hs) hlen) hargs (fun v L1 h => ⟨_, h.2, h.1, rfl⟩))
    (fun v L' ⟨H', ⟨h1, h2⟩, h3⟩ => by subst h1; subst h2; subst h3; exact hk) hg hd hf
theorem VO.writeB {args : Array Operand} {tys : Array TypeId} {b : Nat} {s : ByteArray} {c : UInt8} (hP : X.P = Tryd.prog) (i : Nat) (hL : L[i]? = some (txtH X.w0.heap.size b s)) (hnb : ∀ H ∈ L.eraseIdx i, NB 5 H) (hlen : s.size + 1 ≤ 140737488355328)
    (hargs : evs e args.toList = some [.pointer (some ⟨b, 0, none⟩), .int .u8 (c.toNat : Int)])
    (hk : VO X ops G l (putE dst .nilIface e) (L.set i (txtH X.w0.heap.size b (s ++ ⟨#[c]⟩))) K)
    (hg : gOn ops G guard = some true := by rfl) (hd : dstOk X.n dst = true := by rfl) (hf : gFree G dst = true := by rfl) :
    VO X ops G (⟨dst, .call ⟨.value (.func 23), args, tys⟩, ty, pos, after, guard⟩ :: l) e L K :=
  VO.opx (OpT.callXAt (ψ := fun v H' => v = .nilIface ∧ H' = txtH X.w0.heap.size b (s ++ ⟨#[c]⟩)) i hL (fun Fl w hw hs => hP ▸ writeB_spec _ w _ b s c (low_or hnb hw hs) hlen) hargs (fun v L1 h => ⟨_, h.2, h.1, rfl⟩))
    (fun v L' ⟨H', ⟨h1, h2⟩, h3⟩ => by subst h1; subst h2; subst h3; exact hk) hg hd hf
/-- What was written; the builder is given up. -/
theorem VO.text {args : Array Operand} {tys : Array TypeId} {b : Nat} {s : ByteArray} (hP : X.P = Tryd.prog) (i : Nat) (hL : L[i]? = some (txtH X.w0.heap.size b s)) (hnb : ∀ H ∈ L.eraseIdx i, NB 5 H)
    (hargs : evs e args.toList = some [.pointer (some ⟨b, 0, none⟩)])
    (hk : VO X ops G l (putE dst (.string s) e) (L.eraseIdx i) K)
    (hg : gOn ops G guard = some true := by rfl) (hd : dstOk X.n dst = true := by rfl) (hf : gFree G dst = true := by rfl) :
    VO X ops G (⟨dst, .call ⟨.value (.func 24), args, tys⟩, ty, pos, after, guard⟩ :: l) e L K :=
  VO.opx (OpT.callX hargs (perm_eraseIdx hL) (Lc := [txtH X.w0.heap.size b s]) (R := fun v L => v = .string s ∧ L = []) (fun Fl w hw hs => hP ▸ string_spec _ w _ b s (low_or hnb hw hs)))
    (fun v L' ⟨L1, ⟨h1, h2⟩, h3⟩ => by subst h1; subst h2; subst h3; exact hk) hg hd hf
end

/-! ### Slices that a library function made -/
theorem owns_sl {Fr : Nat → Prop} {B el n : Nat} {v : Value} {xs : List Value} {w : World} (hF : ∀ x, Fr x → x < B) (h : w.ownsRow B el 1 v n xs) : ∃ a cap, v = .slice a n cap ∧ n ≤ cap ∧ Sat Fr [slH el 1 a n cap xs] w := by
  obtain ⟨h1, ⟨rfl, rfl⟩ | ⟨g, cap, cur, rfl, h2, h3, h4, h5, h6, h7⟩⟩ := h
  · exact ⟨none, 0, rfl, Nat.le_refl _, [], ⟨[], [], rfl, ⟨h1, .inl ⟨rfl, rfl, rfl, rfl⟩⟩, rfl⟩, .nil, fun _ h => by cases h⟩
  · have hlt : g < w.heap.size := (Array.getElem?_eq_some_iff.1 h3).1
    have e : xs ++ cur.toList.drop (n * 1) = cur.toList := by rw [← h7, List.take_append_drop]
    refine ⟨_, cap, rfl, h4, [g], ⟨[g], [], rfl, ⟨h1, .inr ⟨g, cur.toList.drop (n * 1), rfl, rfl, h4, ?_, ?_⟩⟩, rfl⟩, by simp, fun b hb => ?_⟩
    · rw [e]; simpa using h6
    · rw [e]; simpa using h3
    · simp only [List.mem_singleton] at hb; subst hb
      exact ⟨fun h => by have := hF _ h; omega, hlt⟩
theorem Tri.of_owns {P : Program} {f : FuncId} {args : List Value} {Fr : Nat → Prop} {w : World} {L : List HP} {el : Nat} {n : Nat} {xs : List Value} (hc : Callable P f)
    (h : Sat Fr L w → Calls P f args.toArray w fun e w' => ∃ v, e = .returned v ∧ w'.ownsRow w.heap.size el 1 v n xs ∧ RowKit.Below w.heap.size w w') :
    Tri P f args Fr w L (fun v L => ∃ a cap, v = .slice a n cap ∧ n ≤ cap ∧ L = [slH el 1 a n cap xs]) :=
  ⟨hc, fun hl hs => Calls.mono (h hs) fun e w' ⟨v, h1, h2, h3⟩ => by
    obtain ⟨a, cap, h4, h5, h6⟩ := owns_sl hl h2
    exact ⟨v, _, h1, ⟨a, cap, h4, h5, rfl⟩, h6, keep_below hl h3⟩⟩


/-! ### What a text is cut to -/
theorem call_indexByte : Callable Tryd.prog 54 := ⟨_, Tryd.func54, by kernel_rfl, by kernel_rfl⟩
theorem call_cut : Callable Tryd.prog 17 := ⟨_, Tryd.func17, by kernel_rfl, by kernel_rfl⟩
theorem call_split : Callable Tryd.prog 29 := ⟨_, Tryd.func29, by kernel_rfl, by kernel_rfl⟩
theorem call_atoi : Callable Tryd.prog 53 := ⟨_, Tryd.func53, by kernel_rfl, by kernel_rfl⟩
theorem indexByte_spec (Fr : Nat → Prop) (w : World) (s : ByteArray) (c : Int) :
    Tri Tryd.prog 54 [.string s, .int .u8 c] Fr w [] (fun v L => v = .int .i64 (Lib.indexByte s.data.toList c.toNat.toUInt8) ∧ L = []) :=
  Tri.of_below call_indexByte (Calls.mono (Any.strings_IndexByte Tryd.lays137 s c w) fun e w' ⟨h1, h2⟩ => ⟨h1, by subst h2; exact RowKit.Below.refl _ _⟩)
/-- What the listed variables hold, and the one of the machine's. -/
structure GlobF (Fr : Nat → Prop) (w : World) : Prop where
  tab : TabF Fr w
  max : Fr (Tryd.lays145_ren.g 1) ∧ ∃ m, w.cell? ⟨Tryd.lays145_ren.g 1, 0, none⟩ = some (.int .i64 m)
  syn : Fr (Tryd.laysC172_ren.g 15) ∧ ∃ ev, w.cell? ⟨Tryd.laysC172_ren.g 15, 0, none⟩ = some ev ∧ (ev = .nilIface ∨ ∃ te pe, ev = .iface te pe)
  rng : Fr (Tryd.laysC172_ren.g 16) ∧ ∃ ev, w.cell? ⟨Tryd.laysC172_ren.g 16, 0, none⟩ = some ev ∧ (ev = .nilIface ∨ ∃ te pe, ev = .iface te pe)
theorem cell_keep {Fr : Nat → Prop} {w w' : World} (hk : Keep Fr w w') {b : Nat} (hb : Fr b) : w'.cell? ⟨b, 0, none⟩ = w.cell? ⟨b, 0, none⟩ := by
  unfold World.cell?; rw [hk.block b hb]
theorem GlobF.keep {Fr Fr' : Nat → Prop} {w w' : World} (h : GlobF Fr w) (hF : ∀ b, Fr b → Fr' b) (hk : Keep Fr w w') : GlobF Fr' w' where
  tab := TabIn.keep h.tab hF hk
  max := ⟨hF _ h.max.1, by rw [cell_keep hk h.max.1]; exact h.max.2⟩
  syn := ⟨hF _ h.syn.1, by rw [cell_keep hk h.syn.1]; exact h.syn.2⟩
  rng := ⟨hF _ h.rng.1, by rw [cell_keep hk h.rng.1]; exact h.rng.2⟩
theorem GlobF.st {X : Cx} {L : List HP} (h : GlobF X.Fr X.w0) {Fr' : Nat → Prop} {w : World} (hF : ∀ b, X.Fr b → Fr' b) (hw : St X L w) : GlobF Fr' w := h.keep hF hw.keep
theorem cut_spec (Fr : Nat → Prop) (w : World) (s sep : ByteArray) (hs : s.size < 4294967281) (h : GlobF Fr w) :
    Tri Tryd.prog 17 [.string s, .string sep] Fr w [] (fun v L => v = .tuple #[.string ⟨(Lib.cut s.data.toList sep.data.toList).1.toArray⟩, .string ⟨(Lib.cut s.data.toList sep.data.toList).2.1.toArray⟩, .bool (Lib.cut s.data.toList sep.data.toList).2.2] ∧ L = []) := by
  obtain ⟨_, m, hm⟩ := h.max
  exact Tri.of_below call_cut (Calls.mono (Any.strings_Cut Tryd.lays145 s sep m w hs hm) fun e w' ⟨h1, n, h2⟩ => ⟨h1, by subst h2; exact ⟨rfl, rfl, rfl, Nat.le_refl _, fun _ _ => rfl⟩⟩)
theorem split_spec (Fr : Nat → Prop) (w : World) (s sep : ByteArray) (hs : s.size < 4294967281) (h1 : 1 ≤ sep.size) (h : GlobF Fr w) :
    Tri Tryd.prog 29 [.string s, .string sep] Fr w [] (fun v L => ∃ b, v = .slice (some ⟨b, 0, none⟩) (Lib.countB s sep + 1) (Lib.countB s sep + 1) ∧ L = [pt b ((Lib.splitB sep 0 (Lib.countB s sep) s).map Value.string) 9]) := by
  obtain ⟨_, m, hm⟩ := h.max
  refine ⟨call_split, fun hl hsat => Calls.mono (Any.strings_Split Tryd.lays146 (by kernel_rfl) s sep m w hs hm h1) fun e w' ⟨h2, h3⟩ => ?_⟩
  subst h3
  exact ⟨_, _, h2, ⟨_, rfl, rfl⟩, Sat.alloc hl _ _ ⟨rfl, heap_alloc_new w _⟩ hsat, Keep.alloc hl _⟩
/-- What a numeral says, as Go reads it: what it tells where it tells no error. -/
def numOf (s : ByteArray) : Option Int := match Lib.atoiAll s.data.toList with
  | .ok v => some v
  | _ => none
theorem atoi_spec (Fr : Nat → Prop) (w : World) (s : ByteArray) (hs : s.size ≤ 281474976710656) (h : GlobF Fr w) :
    Tri Tryd.prog 53 [.string s] Fr w [] (fun v L => L = [] ∧ ((∃ n, numOf s = some n ∧ v = .tuple #[.int .i64 n, .nilIface]) ∨ (∃ n tp p, numOf s = none ∧ v = .tuple #[.int .i64 n, .iface tp p]))) := by
  refine ⟨call_atoi, fun hl hsat => ?_⟩
  have hk : ∀ {w'}, RowKit.Below w.heap.size w w' → Sat Fr [] w' ∧ Keep Fr w w' := fun hb => ⟨Sat.nil, keep_below hl hb⟩
  unfold numOf
  cases ha : Lib.atoiAll s.data.toList with
  | ok v =>
    refine Calls.mono (Any.strconv_Atoi_ok Tryd.laysC172 s (by omega) v ha w) fun e w' ⟨h1, h2⟩ => ⟨_, _, h1, ⟨rfl, .inl ⟨v, rfl, rfl⟩⟩, Sat.nil, keep_below hl ?_⟩
    rcases h2 with rfl | ⟨t, rfl⟩
    · exact RowKit.Below.refl _ _
    · exact Go.Lib.below_freeze (show RowKit.Below w.heap.size w (w.drew.alloc _) from ⟨rfl, rfl, rfl, by show w.heap.size ≤ (w.heap.push _).size; simp, fun j hj => heap_alloc_old w.drew _ hj⟩) (Nat.le_refl _) _
  | range =>
    obtain ⟨_, ev, hc, hev⟩ := h.rng
    exact Calls.mono (Any.strconv_Atoi_range Tryd.laysC172 s hs ha _ w hc hev) fun e w' ⟨N, h1, _, _, h2⟩ => ⟨_, _, h1, ⟨rfl, .inr ⟨_, _, _, rfl, rfl⟩⟩, Sat.nil, keep_below hl h2⟩
  | _ =>
    obtain ⟨_, ev, hc, hev⟩ := h.syn
    exact Calls.mono (Any.strconv_Atoi_syntax Tryd.laysC172 s hs ha _ w hc hev) fun e w' ⟨N, h1, _, _, h2⟩ => ⟨_, _, h1, ⟨rfl, .inr ⟨_, _, _, rfl, rfl⟩⟩, Sat.nil, keep_below hl h2⟩
end Go.Proofs.YtceobomlmdmicaaDoor.LibC
