/- AdmitBars, walked through. Conditions: the kinds' bounds. -/
import Derived.Test.YtbbnmgakmcppdaaGreatALaw
namespace Go.Proofs.YtbbnmgakmcppdaaGreat.Adm
open Go Go.Proofs.YtbbnmgakmcppdaaGreat.Vg Go.Proofs.YtbbnmgakmcppdaaGreat.T Go.Proofs.YtbbnmgakmcppdaaGreat.Api Go.Proofs.YtbbnmgakmcppdaaGreat.Sched Go.Proofs.YtbbnmgakmcppdaaGreat.Conf
set_option linter.unusedSimpArgs false
set_option linter.unusedVariables false
attribute [local irreducible] VO VC VA

structure TryM where
  client : Int
  seq : Int
  try_ : Int
  cls : Int
  deadline : Int
  now : Int
  next : Bool
def TryM.cells (x : TryM) : List Value := [.int .u8 x.client, .int .u8 x.seq, .int .u8 x.try_, .int .u8 x.cls, .int .u8 x.deadline, .int .u8 x.now, .bool x.next]
structure TryM.Byte (x : TryM) : Prop where
  client : 0 ≤ x.client ∧ x.client ≤ 255
  seq : 0 ≤ x.seq ∧ x.seq ≤ 255
  try_ : 0 ≤ x.try_ ∧ x.try_ ≤ 255
  cls : 0 ≤ x.cls ∧ x.cls ≤ 255
  deadline : 0 ≤ x.deadline ∧ x.deadline ≤ 255
  now : 0 ≤ x.now ∧ x.now ≤ 255
structure TriesIn (Fr : Nat → Prop) (w : World) (a : Option Addr) (l : List TryM) : Prop where
  at_ : l ≠ [] → ∃ b off, a = some ⟨b, off, none⟩ ∧ Fr b ∧ ∀ i x, l[i]? = some x → ∀ j v, x.cells[j]? = some v → w.cell? ⟨b, off + i * 7 + j, none⟩ = some v
  byte : ∀ x ∈ l, x.Byte
theorem i64_small {a b : Int} (h1 : 0 ≤ a) (h2 : a ≤ b) (hb : b ≤ 65535 := by omega) : IntKind.i64.wrap a = a := i64_in a (by omega) (by omega)

theorem top_fst {A : AdmM} (h : A.Wf) {k : Nat} (hk : k < 6) : (flat markCs A.marks)[0 + k * 2 + 0 * 1]? = some (.int .i64 (A.mark k).1) := by
  have hk2 : k < A.marks.length := by rw [h.marks]; exact hk
  have h1 : A.marks[k]? = some (A.mark k) := by rw [AdmM.mark, Int.toNat_natCast, List.getElem?_eq_getElem hk2]; rfl
  have := flat_cell markCs_len h1 (j := 0) (v := .int .i64 (A.mark k).1) rfl []
  rw [List.append_nil] at this
  rw [← this]; congr 1; omega
theorem top_snd {A : AdmM} (h : A.Wf) {k : Nat} (hk : k < 6) : (flat markCs A.marks)[0 + k * 2 + 1 * 1]? = some (.int .i64 (A.mark k).2) := by
  have hk2 : k < A.marks.length := by rw [h.marks]; exact hk
  have h1 : A.marks[k]? = some (A.mark k) := by rw [AdmM.mark, Int.toNat_natCast, List.getElem?_eq_getElem hk2]; rfl
  have := flat_cell markCs_len h1 (j := 1) (v := .int .i64 (A.mark k).2) rfl []
  rw [List.append_nil] at this
  rw [← this]; congr 1; omega
theorem top_set {A : AdmM} (h : A.Wf) {k : Nat} (hk : k < 6) (m : MkM) : wrC (flat markCs A.marks) (0 + k * 2) (markCs m) = flat markCs (A.setMark k m).marks := by
  have hk2 : k < A.marks.length := by rw [h.marks]; exact hk
  have := flat_set markCs_len m [] hk2
  rw [List.append_nil, List.append_nil] at this
  rw [Nat.zero_add, this, AdmM.setMark, Int.toNat_natCast]
theorem barred_eq {A : AdmM} {k s t : Int} (hk : A.has k = true) : A.barred k s t = (decide (s < (A.mark k).1) || ((s == (A.mark k).1) && decide (t ≤ (A.mark k).2))) := by
  rw [AdmM.barred, hk, Bool.true_and, aheadM]
  generalize A.mark k = m
  rw [Bool.eq_iff_iff]
  simp
  omega

end Go.Proofs.YtbbnmgakmcppdaaGreat.Adm
