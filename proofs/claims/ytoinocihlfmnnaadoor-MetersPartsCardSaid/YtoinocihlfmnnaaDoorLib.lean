/- What is taken off the library's shelf, as contracts of the engine: numbers as texts, texts put together, texts that grow. No condition but the table of powers of ten, where a number is put. -/
import Derived.Test.YtoinocihlfmnnaaDoorVgS
import Derived.Test.YtoinocihlfmnnaaDoorTab
import Derived.Test.YtoinocihlfmnnaaDoorShelf
namespace Go.Proofs.YtoinocihlfmnnaaDoor.LibC
open Go Go.Proofs.YtoinocihlfmnnaaDoor.Vg Go.Proofs.YtoinocihlfmnnaaDoor.T Go.Shelf
set_option linter.unusedVariables false

def TabF (Fr : Nat → Prop) (w : World) : Prop := TabIn Tryd.prog Fr w "internal/strconv.uint64pow10" .u64 Lib.pow10Tab
theorem TabF.st {X : Cx} {L : List HP} (hP : X.P = Tryd.prog) (h : TabF X.Fr X.w0) {Fr' : Nat → Prop} {w : World} (hF : ∀ b, X.Fr b → Fr' b) (hw : St X L w) : TabF Fr' w := TabIn.keep h hF hw.keep

theorem call_itoa : Callable Tryd.prog 42 := ⟨_, Tryd.func42, by kernel_rfl, by kernel_rfl⟩
theorem call_join : Callable Tryd.prog 66 := ⟨_, Tryd.func66, by kernel_rfl, by kernel_rfl⟩
theorem call_write : Callable Tryd.prog 40 := ⟨_, Tryd.func40, by kernel_rfl, by kernel_rfl⟩
theorem call_string : Callable Tryd.prog 43 := ⟨_, Tryd.func43, by kernel_rfl, by kernel_rfl⟩

/-- A number's text. -/
def numT (n : Int) : ByteArray := ⟨(Lib.itoa n).toArray⟩
theorem itoa_spec (Fr : Nat → Prop) (w : World) (n : Int) (h0 : -9223372036854775808 ≤ n) (h1 : n ≤ 9223372036854775807) (ht : TabF Fr w) :
    Tri Tryd.prog 42 [.int .i64 n] Fr w [] (fun v L => v = .string (numT n) ∧ L = []) :=
  Tri.of_grow call_itoa (Any.strconv_Itoa Tryd.laysM171 n h0 h1 w ht.is)

/-- Texts with one between each two. -/
def joinT (xs : List ByteArray) (sep : ByteArray) : ByteArray := ⟨(Lib.join (xs.map (·.data.toList)) sep.data.toList).toArray⟩
theorem join_spec (Fr : Nat → Prop) (w : World) (bk o c : Nat) (xs : List ByteArray) (sep : ByteArray) (hcells : ∀ (j : Nat) x, xs[j]? = some x → w.cell? ⟨bk, o + j, none⟩ = some (.string x)) (hbk : bk < w.heap.size)
    (hN : xs.length ≤ 140737488355328) (hcap : xs.length ≤ c) (hlen : (Lib.join (xs.map (·.data.toList)) sep.data.toList).length ≤ 140737488355328) :
    Tri Tryd.prog 66 [.slice (some ⟨bk, o, none⟩) xs.length c, .string sep] Fr w [] (fun v L => v = .string (joinT xs sep) ∧ L = []) :=
  Tri.of_below call_join (Any.strings_Join Tryd.lays156 Tryd.Builder_Extra_156 bk o c xs sep w hcells hbk hN hcap hlen)

/-- A builder that holds a text. -/
def txtH (B b : Nat) (s : ByteArray) : HP := bldH 86 5 B b (Lib.strCells s)
theorem strCells_cat (s t : ByteArray) : Lib.strCells s ++ Lib.strCells t = Lib.strCells (s ++ t) := by simp [Lib.strCells]
theorem strCells_len (s : ByteArray) : (Lib.strCells s).length = s.size := by simp [Lib.strCells]
theorem write_spec (Fr : Nat → Prop) (w : World) (B b : Nat) (s t : ByteArray) (hF : ∀ x, Fr x → x < B) (hlen : s.size + t.size ≤ 140737488355328) :
    Tri Tryd.prog 40 [.pointer (some ⟨b, 0, none⟩), .string t] Fr w [txtH B b s] (fun v L => v = .tuple #[.int .i64 t.size, .nilIface] ∧ L = [txtH B b (s ++ t)]) :=
  ⟨call_write, fun hl hs => by
    obtain ⟨h1, h2⟩ := bld_is hs
    exact Calls.mono (Any.Builder_WriteString ({ Tryd.lays156 with } : Lays.n166 Tryd.prog Tryd.lays156_ren) Tryd.Builder_Extra_156 B b _ t w h1 (by rw [strCells_len]; exact hlen) h2) fun e w' ⟨h3, h4, h5⟩ =>
      ⟨_, _, h3, ⟨rfl, rfl⟩, by rw [strCells_cat] at h4; exact bld_of hF h4, keep_below hF h5⟩⟩
theorem string_spec (Fr : Nat → Prop) (w : World) (B b : Nat) (s : ByteArray) (hF : ∀ x, Fr x → x < B) :
    Tri Tryd.prog 43 [.pointer (some ⟨b, 0, none⟩)] Fr w [txtH B b s] (fun v L => v = .string s ∧ L = []) :=
  ⟨call_string, fun hl hs => by
    obtain ⟨h1, h2⟩ := bld_is hs
    exact Calls.mono (Any.Builder_String_any ({ Tryd.lays156 with } : Lays.n169 Tryd.prog Tryd.lays156_ren) { Tryd.Builder_Extra_156 with } B b s.data.toList w h1 h2) fun e w' ⟨h3, h4⟩ =>
      ⟨_, _, h3, ⟨by simp, rfl⟩, Sat.nil, keep_below hF h4⟩⟩
end Go.Proofs.YtoinocihlfmnnaaDoor.LibC
