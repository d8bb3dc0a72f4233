/- The engine, part R: heads of slices, calls of functions that lie in a slot. No program is named; nothing is assumed. -/
import Derived.Test.YtbbnmgakmcppdaaGreatVgI
import Derived.Test.YtbbnmgakmcppdaaGreatVgO
namespace Go.Proofs.YtbbnmgakmcppdaaGreat.Vg
open Go

/-- x[:hi] -/
theorem light_head {X : Cx} {e : Env} {T : TypeId} {x y : Operand} {tt te : TI} {el len cap : Nat} {a : Option Addr} {k : IntKind} {j : Int} (hi : Nat) (hx : ev e x = some (.slice a len cap)) (hy : ev e y = some (.int k j))
    (hT : tyLook X.tab T = some tt) (hu : tt.und = .slice el) (hE : tyLook X.tab el = some te) (hhi : j = hi) (h1 : hi ≤ cap) :
    Light X (.slice T x none (some y) none) e (.slice a hi cap) := by
  intro ac hac dst ty pos after guard w
  have hd := und_slice (X.ok.look hT) hu
  obtain ⟨i2, hi2, hs2, _, _⟩ := (X.ok.look hE).info'
  subst hhi
  simp [execOp, hac.ev hx, hac.ev hy, Instr.sliceAt, Instr.slice, Instr.sliceBounds, Instr.sliceBound, asIntOf, run_underlying hd, h1, run_size hi2]
  cases a with
  | none => simp
  | some a => simp [Addr.add]
/-- A conversion between kinds of integers. -/
theorem light_conv {X : Cx} {e : Env} {s d : TypeId} {x : Operand} {j : IntKind} {a : Int} {ts td : TI} {k : IntKind} (z : Int) (hx : ev e x = some (.int j a)) (hs : tyLook X.tab s = some ts) (hd' : tyLook X.tab d = some td) (hsu : ts.und = .int j) (hdu : td.und = .int k)
    (hz : k.wrap a = z) : Light X (.convert s d x) e (.int k z) := by
  have h1 := und_int (X.ok.look hs) hsu
  have h2 := und_int (X.ok.look hd') hdu
  intro a' ha dst ty pos after guard w
  simp [execOp, ha.ev hx, convert, run_underlying h1, run_underlying h2, Conv.intToInt, hz]

theorem Ret.cell3 {X : Cx} {fn : Func} {R : Value → List HP → Prop} {e : Env} {L : List HP} {T : TypeId} {ti : TI} {b : Nat} {v u x : Value} (p q r : Nat) (h : fn.results = #[.cell p T, .tmp q, .tmp r]) (hp : look e p = some (.pointer (some ⟨b, 0, none⟩))) (hT : tyLook X.tab T = some ti)
    (hr : RdL X L ti b 0 v) (hq : look e q = some u) (hx : look e r = some x) {L' : List HP} (he : Ent X L L') (hR : R (.tuple #[v, u, x]) L') : Ret X fn R e L :=
  ⟨_, L', ⟨fun a w ha hw => by
    have := run_loadVar (X.ok.look hT) (hr w hw)
    have hp' := ha.at_ p _ hp
    have hq' := ha.at_ q _ hq
    have hx' := ha.at_ r _ hx
    simp only [Array.getD_eq_getD_getElem?] at hp' hq' hx'
    simp [results, h, hp', hq', hx', asAddr, this]⟩, he, hR⟩

theorem OpT.viaTmp {X : Cx} {f : FuncId} {args : Array Operand} {tys : Array TypeId} {e : Env} {L : List HP} {M : Value → List HP → Prop} {t : Tmp} (ht : look e t = some (.func (.func f) #[] #[]))
    (h : OpT X (.call ⟨.value (.func f), args, tys⟩) e L M) : OpT X (.call ⟨.value (.tmp t), args, tys⟩) e L M := fun a w ha hw dst ty pos after guard => by
  have he : a.eval (.tmp t) = a.eval (.func f) := ha.at_ t _ ht
  have key : execOp a.eval ⟨dst, .call ⟨.value (.tmp t), args, tys⟩, ty, pos, after, guard⟩ = execOp a.eval ⟨dst, .call ⟨.value (.func f), args, tys⟩, ty, pos, after, guard⟩ := by
    simp only [execOp, resolve, he]
  rw [key]
  exact h a w ha hw dst ty pos after guard

section
variable {X : Cx} {ops : Array Oper} {G : GS} {l : List Oper} {pl : Plan} {S : Pend} {e : Env} {L : List HP} {K : Env → List HP → Prop}
  {dst : Option Tmp} {ty : TypeId} {pos : String} {after : Array Edge} {guard : Option (Nat × Bool)}
/-- An operation that is not carried out, the only one ready. -/
theorem VA.offO {i : Nat} {o : Oper} (hi : ops.toList[i]? = some o) (hg : gOn ops G o.guard = some false) (hk : VA X ops G pl (S.filter fun p => !waits ops i p.1) (putE o.dst undef e) L K)
    (hd : dstOk X.n o.dst = true := by rfl) (hf : gFree G o.dst = true := by rfl) : VA X ops G (.only i pl) S e L K := by
  intro Q' hp0 hQ hsel listed a w hp ha hG hw hall
  simp only [planB, Bool.and_eq_true, beq_iff_eq] at hp
  have hi' : ops[i]? = some o := by simpa using hi
  have hpr := hp.1
  refine ⟨fun h0 => (by rw [hpr] at h0; cases h0), fun j hj => ?_⟩
  rw [hpr, List.mem_singleton] at hj
  subst hj
  unfold wpOp
  rw [hi']
  simp only [gOn_wanted hG hg, Bool.false_eq_true, if_false]
  refine ⟨fun p hp1 _ => hall p hp1, ?_⟩
  exact hk Q' hp0 hQ hsel _ _ w hp.2 (ha.putE hd undef) (hG.put hf undef) hw (fun p hp1 => hall p (List.mem_filter.1 hp1).1)
/-- An operation whose guard hangs on one that was not carried out. -/
theorem VA.offU {i : Nat} {o : Oper} {j d : Nat} {want : Bool} (hi : ops.toList[i]? = some o) (hg : o.guard = some (j, want)) (hj : (ops.toList[j]?).bind (fun oj => oj.dst) = some d) (hu : look e d = some undef)
    (hk : VA X ops G pl S (putE o.dst undef e) L K) (hd : dstOk X.n o.dst = true := by rfl) (hf : gFree G o.dst = true := by rfl) : VA X ops G (.take i pl) S e L K := by
  refine VA.first (Si := fun _ => True) hi hd hf (fun a ha hG => .inr ⟨?_, rfl⟩) (fun _ _ => trivial) ?_
  · unfold Region.wanted
    rw [hg]
    have hy : yielded ops a.tmps j = none := by
      unfold yielded
      have hj' : (ops[j]?).bind (fun oj => oj.dst) = some d := by simpa using hj
      have ht := ha.at_ d _ hu
      rw [hj']
      simp only [Option.bind_some]
      cases hq : a.tmps[d]? with
      | none => rfl
      | some v =>
        have : v = undef := by rw [← ht, Array.getD_eq_getD_getElem?, hq]; rfl
        subst this; rfl
    simp [hy]
  intro Q' hp0 hQ hsel listed a w hp ha hG hw hall
  have := hk Q' hp0 hQ hsel listed a w hp ha hG hw (fun p h => hall p (List.mem_cons_of_mem _ h))
  exact wpAnyP_more pl.len listed S _ a w (fun p hp => by
    rcases List.mem_cons.1 hp with rfl | hp
    · exact .inr fun _ => trivial
    · exact .inl hp) this
/-- What was read ahead is forgotten but for this: it stays readable while that holds. -/
theorem VA.keepS {cond : List HP → Prop} (h : ∀ S : Pend, (∀ L', cond L' → Pd X L' S) → VA X ops G pl S e L K) (h0 : ∀ L', cond L' → Pd X L' S) : VA X ops G pl S e L K := h S h0
/-- A call of a function in a slot that is given piece i, and gives one back. -/
theorem VO.callAtT {f : FuncId} {t : Tmp} {args : Array Operand} {tys : Array TypeId} {vals : List Value} {H : HP} {R : Value → List HP → Prop} {ψ : Value → HP → Prop} (i : Nat) (htm : look e t = some (.func (.func f) #[] #[]))
    (hL : L[i]? = some H) (ht : ∀ Fr' w, (∀ b, X.Fr b → Fr' b) → St X L w → SatIn Fr' (L.eraseIdx i) w → Tri X.P f vals Fr' w [H] R) (hargs : evs e args.toList = some vals)
    (hR : ∀ v L1, R v L1 → ∃ H', L1 = [H'] ∧ ψ v H') (hk : ∀ v H', ψ v H' → VO X ops G l (putE dst v e) (L.set i H') K)
    (hg : gOn ops G guard = some true := by rfl) (hd : dstOk X.n dst = true := by rfl) (hf : gFree G dst = true := by rfl) :
    VO X ops G (⟨dst, .call ⟨.value (.tmp t), args, tys⟩, ty, pos, after, guard⟩ :: l) e L K :=
  VO.op hg hd hf (OpT.viaTmp htm (OpT.callAt i hL ht hargs hR)) fun v L' ⟨H', h1, h2⟩ => by subst h2; exact hk v H' h1
end
theorem yU : type_of% @VA.offU := @VA.offU
end Go.Proofs.YtbbnmgakmcppdaaGreat.Vg
