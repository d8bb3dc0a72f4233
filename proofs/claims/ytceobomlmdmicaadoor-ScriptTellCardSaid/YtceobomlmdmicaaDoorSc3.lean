/- Layer 24: steps as texts: how the program puts them. No condition but what the listed variables hold. -/
import Derived.Test.YtceobomlmdmicaaDoorSc2
import Derived.Lib.ItoaLen
namespace Go.Proofs.YtceobomlmdmicaaDoor.Scr
open Go Go.Proofs.YtceobomlmdmicaaDoor.Vg Go.Proofs.YtceobomlmdmicaaDoor.T Go.Proofs.YtceobomlmdmicaaDoor.Api Go.Proofs.YtceobomlmdmicaaDoor.LibC
set_option linter.unusedSimpArgs false
set_option linter.unusedVariables false
attribute [local irreducible] VO VC VA

structure DoM where
  kind : Int
  a : Int
  b : Int
  c : Int
  op : OpM
def doC (d : DoM) : List Value := [.int .i64 d.kind, .int .i64 d.a, .int .i64 d.b, .int .i64 d.c, .int .i64 d.op.kind, .string d.op.key, .string d.op.value, .int .i64 d.op.version]
theorem doC_len (d : DoM) : (doC d).length = 8 := rfl
theorem doC_one (d : DoM) : (doC d).all Value.oneCell' = true := rfl
def opZ : OpM := ⟨0, nilB, nilB, 0⟩
def doZ : DoM := ⟨0, 0, 0, 0, opZ⟩
def isI (n : Int) : Prop := -9223372036854775808 ≤ n ∧ n ≤ 9223372036854775807
structure DoM.Ok (d : DoM) : Prop where
  kind : isI d.kind
  a : isI d.a
  b : isI d.b
  c : isI d.c
  opk : isI d.op.kind
  opv : isI d.op.version
  key : d.op.key.size ≤ 1000
  val : d.op.value.size ≤ 1000
def abc : List UInt8 := [97, 98, 99]
def wordsT : List (List UInt8) := [[], [99, 97, 108, 108], [115, 116, 101, 112], [116, 105, 99, 107], [100, 101, 108, 105, 118, 101, 114], [100, 114, 111, 112], [100, 111, 117, 98, 108, 101], [99, 114, 97, 115, 104], [115, 117, 115, 112, 101, 99, 116], [106, 111, 105, 110], [100, 114, 97, 105, 110], [119, 97, 116, 99, 104]]
def usesT : List (List UInt8) := [[], [97, 98, 99, 111], [97], [], [97, 98, 99], [97, 98, 99], [97, 98, 99], [97], [97], [97], [97], []]
def wordK (k : Nat) : List UInt8 := wordsT.getD k []
def usesK (k : Nat) : List UInt8 := usesT.getD k []
def kT : List Nat := List.range 12
def kiC (k : Nat) : List Value := [.string (toB (wordK k)), .string (toB (usesK k))]
theorem kiC_len (k : Nat) : (kiC k).length = 2 := rfl
def kinds : List Value := flat kiC kT
def isK (k : Int) : Bool := decide (1 ≤ k) && decide (k ≤ 11)
theorem isK_nat {k : Int} (h : isK k = true) : ∃ n : Nat, k = n ∧ 1 ≤ n ∧ n ≤ 11 := by
  simp [isK] at h
  exact ⟨k.toNat, by omega, by omega, by omega⟩
theorem kinds_at {k j : Nat} {v : Value} (hk : k < 12) (hj : (kiC k)[j]? = some v) : kinds[0 + k * 2 + j]? = some v := by
  have := flat_cell kiC_len (l := kT) (i := k) (a := k) (by simp [kT, hk]) hj []
  rw [List.append_nil] at this
  rw [Nat.zero_add]; exact this
theorem uses_ok : ∀ k, k < 12 → ∀ c ∈ usesK k, c = 97 ∨ c = 98 ∨ c = 99 ∨ c = 111 := by decide +kernel
theorem word_len : ∀ k, k < 12 → (wordK k).length ≤ 7 ∧ (usesK k).length ≤ 4 := by decide +kernel
/-- What the listed variable holds. -/
def KindsF (Fr : Nat → Prop) (w : World) : Prop := Blk Fr w 0 kinds
theorem KindsF.st {X : Cx} {L : List HP} (h : KindsF X.Fr X.w0) {Fr' : Nat → Prop} {w : World} (hF : ∀ b, X.Fr b → Fr' b) (hw : St X L w) : KindsF Fr' w := Blk.of h hF hw
theorem decode_ascii {s : ByteArray} {i : Nat} {c : UInt8} (h : s.data.toList[i]? = some c) (hc : c.toNat < 128) : Utf8.decode s i = (c.toNat, 1) := by
  have h2 : s.data[i]? = some c := by simpa using h
  obtain ⟨h3, h4⟩ := Array.getElem?_eq_some_iff.1 h2
  have hg : (s.get! i).toNat = c.toNat := by
    show (s.data[i]!).toNat = _
    rw [getElem!_pos s.data i h3, h4]
  have hc' : c.toNat < 0x80 := hc
  simp only [Utf8.decode, Nat.add_zero, hg, hc', if_true]

set_option maxRecDepth 100000 in
theorem isKind_spec (Fr : Nat → Prop) (w : World) (k : Int) : Tri Tryd.prog 15 [.int .i64 k] Fr w [] (fun v L => v = .bool (isK k) ∧ L = []) := by
  refine Tri.of 9 Tryd.func15 rfl (by kernel_rfl) tabOk rfl rfl ?_
  (repeat (first | refine VC.seq ?_ | refine VC.region ?_ | refine VC.block ?_ | refine VC.label ?_ | refine VC.scope ?_ | refine VO.go (VO.nil ?_) | refine VO.go (VO.ld 0 rfl rfl rfl rfl ?_)))
  refine VO.go (VO.split 5 rfl rfl (fun h1 => ?_) (fun h1 => ?_))
  · (repeat (first | refine VC.seq ?_ | refine VC.region ?_ | refine VC.block ?_ | refine VC.label ?_ | refine VC.scope ?_ | refine VO.go (VO.nil ?_) | refine VO.go (VO.ld 0 rfl rfl rfl rfl ?_)))
    exact VC.ret (Ret.bool 2 rfl rfl (by rw [isK]; have := of_decide_eq_true h1; simp [this]) Ent.refl ⟨rfl, rfl⟩)
  · (repeat (first | refine VC.seq ?_ | refine VC.region ?_ | refine VC.block ?_ | refine VC.label ?_ | refine VC.scope ?_ | refine VO.go (VO.nil ?_) | refine VO.go (VO.ld 0 rfl rfl rfl rfl ?_)))
    exact VC.ret (Ret.bool 2 rfl rfl (by rw [isK]; have := of_decide_eq_false h1; simp [this]) Ent.refl ⟨rfl, rfl⟩)

def numL (n : Int) : List UInt8 := 32 :: Lib.itoa n
def useT (d : DoM) (c : UInt8) : List UInt8 :=
  if c = 97 then numL d.a else if c = 98 then numL d.b else if c = 99 then numL d.c
  else numL d.op.kind ++ numL d.op.version ++ (32 :: 58 :: encB d.op.key.data.toList) ++ (32 :: 58 :: encB d.op.value.data.toList)
def restL (d : DoM) : List UInt8 := (usesK d.kind.toNat).flatMap (useT d)
def lineL (d : DoM) : List UInt8 := if isK d.kind then wordK d.kind.toNat ++ restL d ++ [10] else []
def putL (l : List DoM) : List UInt8 := l.flatMap lineL
theorem numL_len {n : Int} (h : isI n) : (numL n).length ≤ 22 := by
  have := Lib.itoa_length_le n h.1 h.2
  simp only [numL, List.length_cons]; omega
theorem useT_len {d : DoM} (h : d.Ok) (c : UInt8) : (useT d c).length ≤ 4100 := by
  have h1 := numL_len h.a
  have h2 := numL_len h.b
  have h3 := numL_len h.c
  have h4 := numL_len h.opk
  have h5 := numL_len h.opv
  have h6 := h.key
  have h7 := h.val
  unfold useT
  split
  · omega
  split
  · omega
  split
  · omega
  · simp only [List.length_append, List.length_cons, encB_len, data_len]; omega
theorem flatMap_len {α : Type} {f : α → List UInt8} {n : Nat} : ∀ {l : List α}, (∀ x ∈ l, (f x).length ≤ n) → (l.flatMap f).length ≤ n * l.length
  | [], _ => by simp
  | x :: l, h => by
    rw [List.flatMap_cons, List.length_append, List.length_cons, Nat.mul_succ]
    have h1 := h x (by simp)
    have h2 := flatMap_len (l := l) (f := f) (n := n) fun y hy => h y (by simp [hy])
    omega
theorem lineL_len {d : DoM} (h : d.Ok) : (lineL d).length ≤ 16500 := by
  unfold lineL
  split
  · rename_i hk
    obtain ⟨n, hn, h1, h2⟩ := isK_nat hk
    have hw := word_len n (by omega)
    have hr : (restL d).length ≤ 4100 * (usesK d.kind.toNat).length := flatMap_len fun c _ => useT_len h c
    rw [hn] at hr ⊢
    simp only [Int.toNat_natCast, List.length_append, List.length_cons, List.length_nil] at hr ⊢
    omega
  · simp
theorem NB.it {tB : TypeId} {b pos : Nat} {s : ByteArray} : NB tB (itH b s pos) := fun ids w ⟨h1, h2⟩ x hx => by
  subst h1
  obtain rfl : x = b := by simpa using hx
  exact ⟨_, h2, fun c fz he => by cases he⟩
theorem numT_toB (n : Int) : numT n = toB (Lib.itoa n) := rfl
end Go.Proofs.YtceobomlmdmicaaDoor.Scr
