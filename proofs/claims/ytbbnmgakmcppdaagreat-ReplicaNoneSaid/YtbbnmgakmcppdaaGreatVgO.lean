/- The engine, part O: an operation whose guard hangs on one that was not carried out. No program is named; nothing is assumed. -/
import Derived.Test.YtbbnmgakmcppdaaGreatVgI
namespace Go.Proofs.YtbbnmgakmcppdaaGreat.Vg
open Go

theorem VO.offU {X : Cx} {ops : Array Oper} {G : GS} {o : Oper} {l : List Oper} {e : Env} {L : List HP} {K : Env → List HP → Prop} {j d : Nat} {want : Bool}
    (hg : o.guard = some (j, want)) (hj : (ops.toList[j]?).bind (fun oj => oj.dst) = some d) (hu : look e d = some undef)
    (hk : VO X ops G l (putE o.dst undef e) L K) (hd : dstOk X.n o.dst = true := by rfl) (hf : gFree G o.dst = true := by rfl) : VO X ops G (o :: l) e L K := by
  intro Q' hQ a w ha hG hw
  unfold wpList
  have hn : Region.wanted o (yielded ops a.tmps) = false := by
    unfold Region.wanted
    rw [hg]
    have hy : yielded ops a.tmps j = none := by
      unfold yielded
      have hj' : (ops[j]?).bind (fun oj => oj.dst) = some d := by simpa using hj
      have ht := ha.at_ d _ hu
      rw [hj']
      simp only [Option.bind_some]
      cases hq : a.tmps[d]? with
      | none => rfl
      | some v =>
        have : v = undef := by rw [← ht, Array.getD_eq_getD_getElem?, hq]; rfl
        subst this; rfl
    simp [hy]
  rw [if_neg (by rw [hn]; simp)]
  exact hk Q' hQ _ _ (ha.putE hd _) (hG.put hf _) hw
theorem zU : type_of% @VO.offU := @VO.offU
end Go.Proofs.YtbbnmgakmcppdaaGreat.Vg
