/- The engine, part K: closures: functions that hold on to variables, and methods bound to their receiver. No program is named; nothing is assumed. -/
import Derived.Test.YtbbnmgakmcppdaaGreatVgR
import Derived.Test.YtbbnmgakmcppdaaGreatVgV
namespace Go.Proofs.YtbbnmgakmcppdaaGreat.Vg
open Go
set_option linter.unusedVariables false
set_option linter.unusedSimpArgs false

/-- A function value: bound to these first arguments, and with these variables. -/
def fnV (f : FuncId) (first capt : List Value) : Value := .func (.func f) first.toArray capt.toArray
theorem light_makeFunc {X : Cx} {e : Env} {f : FuncId} {first capt : Array Operand} {u v : List Value} (hu : evs e first.toList = some u) (hv : evs e capt.toList = some v) : Light X (.makeFunc (.func f) first capt) e (fnV f u v) := by
  intro a ha dst ty pos after guard w
  have h1 : first.map a.eval = u.toArray := by
    have := ha.evs hu
    apply Array.toList_inj.1
    simpa using this
  have h2 : capt.map a.eval = v.toArray := by
    have := ha.evs hv
    apply Array.toList_inj.1
    simpa using this
  simp only [execOp]
  show ((do pure (Next.value (← Instr.makeFunc (.func f) (first.map a.eval) (capt.map a.eval))) : Sem Next)).run X.P w = _
  rw [h1, h2]; rfl
theorem run_callV {P : Program} {f : FuncId} (h : Callable P f) (a : Act) (x : Operand) (first capt : List Value) (hx : a.eval x = fnV f first capt) (args : Array Operand) (tys : Array TypeId) (dst : Option Tmp) (ty : TypeId) (pos : String) (after : Array Edge) (guard : Option (Nat × Bool)) (w : World) :
    (execOp a.eval ⟨dst, .call ⟨.value x, args, tys⟩, ty, pos, after, guard⟩).run P w = .ok (.enter f (first.toArray ++ args.map a.eval ++ capt.toArray)) w := by
  have := run_callFunc h (first.toArray ++ args.map a.eval ++ capt.toArray) w
  simp only [execOp, resolve, hx, fnV, Deferred.ofValue, invoke]
  exact this
theorem OpT.callF {X : Cx} {f : FuncId} {x : Operand} {first capt : List Value} {args : Array Operand} {tys : Array TypeId} {e : Env} {L Lc Lr : List HP} {vals : List Value} {R : Value → List HP → Prop}
    (hx : ev e x = some (fnV f first capt)) (hargs : evs e args.toList = some vals) (hp : L.Perm (Lc ++ Lr))
    (ht : ∀ Fr' w, (∀ b, X.Fr b → Fr' b) → St X L w → SatIn Fr' Lr w → Tri X.P f (first ++ vals ++ capt) Fr' w Lc R) :
    OpT X (.call ⟨.value x, args, tys⟩) e L (fun v L' => ∃ L1, R v L1 ∧ L' = L1 ++ Lr) := by
  intro a w ha hw dst ty pos after guard
  obtain ⟨F, hs, hnd, hb⟩ := hw.sat.perm hp
  obtain ⟨Fc, Fl, rfl, hsc, hsl⟩ := Sats.append.1 hs
  have T := ht (fun b => X.Fr b ∨ b ∈ Fl) w (fun b h => .inl h) hw ⟨Fl, hsl, fun b h => .inr h⟩
  have hev : args.map a.eval = vals.toArray := by
    have := ha.evs hargs
    apply Array.toList_inj.1
    simpa using this
  refine .inr (.inr ⟨f, (first ++ vals ++ capt).toArray, ?_, ?_⟩)
  · have := run_callV T.callable a x first capt (ha.ev hx) args tys dst ty pos after guard w
    rw [this, hev]; simp
  · obtain ⟨hnc, hnl, hdis⟩ := List.nodup_append.1 hnd
    refine Calls.mono (T.calls (fun b h => ?_) ⟨Fc, hsc, hnc, fun b h => ⟨fun h' => ?_, (hb b (by simp [h])).2⟩⟩) fun en w' ⟨v, L', h1, h2, h3, h4⟩ => ?_
    · rcases h with h | h
      · exact hw.lowW b h
      · exact (hb b (by simp [h])).2
    · rcases h' with h' | h'
      · exact (hb b (by simp [h])).1 h'
      · exact hdis b h b h' rfl
    · refine ⟨v, L' ++ Lr, h1, ⟨L', h2, rfl⟩, ⟨?_, hw.keep.trans (h4.mono fun b h => .inl h), hw.low⟩⟩
      obtain ⟨G, hG, hGn, hGb⟩ := h3
      refine ⟨G ++ Fl, Sats.append.2 ⟨G, Fl, rfl, hG, hsl.loc fun b h => h4.block b (.inr h)⟩, ?_, ?_⟩
      · exact List.nodup_append.2 ⟨hGn, hnl, fun x hx y hy he => (hGb x hx).1 (.inr (he ▸ hy))⟩
      · intro b h
        rcases List.mem_append.1 h with h | h
        · exact ⟨fun h' => (hGb b h).1 (.inl h'), (hGb b h).2⟩
        · exact ⟨(hb b (by simp [h])).1, Nat.lt_of_lt_of_le (hb b (by simp [h])).2 h4.size⟩
section
variable {X : Cx} {ops : Array Oper} {G : GS} {l : List Oper} {e : Env} {L : List HP} {K : Env → List HP → Prop} {pl : Plan} {S : Pend}
  {dst : Option Tmp} {ty : TypeId} {pos : String} {after : Array Edge} {guard : Option (Nat × Bool)}
theorem VO.callF {f : FuncId} {x : Operand} {first capt : List Value} {args : Array Operand} {tys : Array TypeId} {vals : List Value} {R : Value → List HP → Prop} {Lc Lr : List HP} (hx : ev e x = some (fnV f first capt))
    (ht : ∀ Fr' w, (∀ b, X.Fr b → Fr' b) → St X L w → SatIn Fr' Lr w → Tri X.P f (first ++ vals ++ capt) Fr' w Lc R) (hargs : evs e args.toList = some vals) (hL : L = Lc ++ Lr)
    (hk : ∀ v L1, R v L1 → VO X ops G l (putE dst v e) (L1 ++ Lr) K)
    (hg : gOn ops G guard = some true := by rfl) (hd : dstOk X.n dst = true := by rfl) (hf : gFree G dst = true := by rfl) :
    VO X ops G (⟨dst, .call ⟨.value x, args, tys⟩, ty, pos, after, guard⟩ :: l) e L K :=
  VO.op hg hd hf (OpT.callF hx hargs (hL ▸ .refl _) ht) fun v L' ⟨L1, h1, h2⟩ => by subst h2; exact hk v L1 h1
theorem OpT.callFP {φ : Value → Prop} {f : FuncId} {x : Operand} {first capt : List Value} {args : Array Operand} {tys : Array TypeId} {vals : List Value} (hx : ev e x = some (fnV f first capt))
    (ht : ∀ Fr' w, (∀ b, X.Fr b → Fr' b) → St X L w → SatIn Fr' L w → Tri X.P f (first ++ vals ++ capt) Fr' w [] (fun v L => φ v ∧ L = [])) (hargs : evs e args.toList = some vals) :
    OpT X (.call ⟨.value x, args, tys⟩) e L (fun v L' => φ v ∧ L' = L) := fun a w ha hw dst ty pos after guard => by
  have key : ∀ v (L' : List HP), (∃ L1, (φ v ∧ L1 = []) ∧ L' = L1 ++ L) → φ v ∧ L' = L := by
    rintro v L' ⟨L1, ⟨h1, h2⟩, h3⟩
    rw [h2] at h3; exact ⟨h1, h3⟩
  rcases OpT.callF (Lc := []) (Lr := L) hx hargs (.refl _) ht a w ha hw dst ty pos after guard with ⟨v, w', L', h1, h2, h3⟩ | ⟨w', L', h1, h2, h3⟩ | ⟨f', args', h1, h2⟩
  · exact .inl ⟨v, w', L', h1, key _ _ h2, h3⟩
  · exact .inr (.inl ⟨w', L', h1, key _ _ h2, h3⟩)
  · refine .inr (.inr ⟨f', args', h1, Calls.mono h2 ?_⟩)
    rintro en w' ⟨v, L', h3, h4, h5⟩
    exact ⟨v, L', h3, key _ _ h4, h5⟩
/-- A closure is called that leaves all pieces as they are and yields this value. -/
theorem VO.callFV {u : Value} {f : FuncId} {x : Operand} {first capt : List Value} {args : Array Operand} {tys : Array TypeId} {vals : List Value} (hx : ev e x = some (fnV f first capt))
    (ht : ∀ Fr' w, (∀ b, X.Fr b → Fr' b) → St X L w → SatIn Fr' L w → Tri X.P f (first ++ vals ++ capt) Fr' w [] (fun v L => v = u ∧ L = [])) (hargs : evs e args.toList = some vals)
    (hk : VO X ops G l (putE dst u e) L K)
    (hg : gOn ops G guard = some true := by rfl) (hd : dstOk X.n dst = true := by rfl) (hf : gFree G dst = true := by rfl) :
    VO X ops G (⟨dst, .call ⟨.value x, args, tys⟩, ty, pos, after, guard⟩ :: l) e L K :=
  VO.op hg hd hf (OpT.callFP (φ := fun v => v = u) hx ht hargs) fun v L' ⟨h1, h2⟩ => by subst h1; subst h2; exact hk
theorem VA.callFV {u : Value} {j : Nat} {f : FuncId} {x : Operand} {first capt : List Value} {args : Array Operand} {tys : Array TypeId} {vals : List Value} (hx : ev e x = some (fnV f first capt))
    (ht : ∀ Fr' w, (∀ b, X.Fr b → Fr' b) → St X L w → SatIn Fr' L w → Tri X.P f (first ++ vals ++ capt) Fr' w [] (fun v L => v = u ∧ L = []))
    (hi : ops.toList[j]? = some ⟨dst, .call ⟨.value x, args, tys⟩, ty, pos, after, guard⟩) (hargs : evs e args.toList = some vals) (hst : Pd X L (S.filter fun p => !waits ops j p.1))
    (hk : VA X ops G pl (S.filter fun p => !waits ops j p.1) (putE dst u e) L K)
    (hg : gOn ops G guard = some true := by rfl) (hd : dstOk X.n dst = true := by rfl) (hf : gFree G dst = true := by rfl) : VA X ops G (.only j pl) S e L K :=
  VA.opP (OpT.callFP (φ := fun v => v = u) hx ht hargs) hi (fun v L' ⟨h1, h2⟩ => by subst h2; exact hst) (fun v L' ⟨h1, h2⟩ => by subst h1; subst h2; exact hk) hg hd hf
theorem OpT.callFAt {f : FuncId} {x : Operand} {first capt : List Value} {args : Array Operand} {tys : Array TypeId} {vals : List Value} {H : HP} {R : Value → List HP → Prop} {ψ : Value → HP → Prop} (i : Nat) (hx : ev e x = some (fnV f first capt))
    (hL : L[i]? = some H) (ht : ∀ Fr' w, (∀ b, X.Fr b → Fr' b) → St X L w → SatIn Fr' (L.eraseIdx i) w → Tri X.P f (first ++ vals ++ capt) Fr' w [H] R) (hargs : evs e args.toList = some vals)
    (hR : ∀ v L1, R v L1 → ∃ H', L1 = [H'] ∧ ψ v H') :
    OpT X (.call ⟨.value x, args, tys⟩) e L (fun v L' => ∃ H', ψ v H' ∧ L' = L.set i H') := by
  intro a w ha hw dst ty pos after guard
  have hi : i < L.length := (List.getElem?_eq_some_iff.1 hL).1
  have key : ∀ v w' L', (∃ L1, R v L1 ∧ L' = L1 ++ L.eraseIdx i) → St X L' w' → ∃ L'', (∃ H', ψ v H' ∧ L'' = L.set i H') ∧ St X L'' w' := by
    rintro v w' _ ⟨L1, h1, rfl⟩ hs
    obtain ⟨H', rfl, hψ⟩ := hR v L1 h1
    exact ⟨_, ⟨H', hψ, rfl⟩, Ent.back i H' hi w' hs⟩
  rcases OpT.callF (R := R) hx hargs (Lc := [H]) (Lr := L.eraseIdx i) (perm_eraseIdx hL) ht a w ha hw dst ty pos after guard with ⟨v, w', L', h1, h2, h3⟩ | ⟨w', L', h1, h2, h3⟩ | ⟨f, args, h1, h2⟩
  · obtain ⟨L'', h4, h5⟩ := key _ _ _ h2 h3
    exact .inl ⟨v, w', L'', h1, h4, h5⟩
  · obtain ⟨L'', h4, h5⟩ := key _ _ _ h2 h3
    exact .inr (.inl ⟨w', L'', h1, h4, h5⟩)
  · refine .inr (.inr ⟨f, args, h1, Calls.mono h2 ?_⟩)
    rintro en w' ⟨v, L', h3, h4, h5⟩
    obtain ⟨L'', h6, h7⟩ := key _ _ _ h4 h5
    exact ⟨v, L'', h3, h6, h7⟩
/-- A closure is called that is given piece i and gives one back. -/
theorem VO.callFAt {f : FuncId} {x : Operand} {first capt : List Value} {args : Array Operand} {tys : Array TypeId} {vals : List Value} {H : HP} {R : Value → List HP → Prop} {ψ : Value → HP → Prop} (i : Nat) (hx : ev e x = some (fnV f first capt))
    (hL : L[i]? = some H) (ht : ∀ Fr' w, (∀ b, X.Fr b → Fr' b) → St X L w → SatIn Fr' (L.eraseIdx i) w → Tri X.P f (first ++ vals ++ capt) Fr' w [H] R) (hargs : evs e args.toList = some vals)
    (hR : ∀ v L1, R v L1 → ∃ H', L1 = [H'] ∧ ψ v H') (hk : ∀ v H', ψ v H' → VO X ops G l (putE dst v e) (L.set i H') K)
    (hg : gOn ops G guard = some true := by rfl) (hd : dstOk X.n dst = true := by rfl) (hf : gFree G dst = true := by rfl) :
    VO X ops G (⟨dst, .call ⟨.value x, args, tys⟩, ty, pos, after, guard⟩ :: l) e L K :=
  VO.op hg hd hf (OpT.callFAt i hx hL ht hargs hR) fun v L' ⟨H', h1, h2⟩ => by subst h2; exact hk v H' h1
theorem VA.callFAt {j : Nat} {f : FuncId} {x : Operand} {first capt : List Value} {args : Array Operand} {tys : Array TypeId} {vals : List Value} {H : HP} {R : Value → List HP → Prop} {ψ : Value → HP → Prop} (i : Nat) (hx : ev e x = some (fnV f first capt))
    (hL : L[i]? = some H) (ht : ∀ Fr' w, (∀ b, X.Fr b → Fr' b) → St X L w → SatIn Fr' (L.eraseIdx i) w → Tri X.P f (first ++ vals ++ capt) Fr' w [H] R)
    (hi : ops.toList[j]? = some ⟨dst, .call ⟨.value x, args, tys⟩, ty, pos, after, guard⟩) (hargs : evs e args.toList = some vals)
    (hR : ∀ v L1, R v L1 → ∃ H', L1 = [H'] ∧ ψ v H') (hst : ∀ v H', ψ v H' → Pd X (L.set i H') (S.filter fun p => !waits ops j p.1))
    (hk : ∀ v H', ψ v H' → VA X ops G pl (S.filter fun p => !waits ops j p.1) (putE dst v e) (L.set i H') K)
    (hg : gOn ops G guard = some true := by rfl) (hd : dstOk X.n dst = true := by rfl) (hf : gFree G dst = true := by rfl) : VA X ops G (.only j pl) S e L K :=
  VA.opP (OpT.callFAt i hx hL ht hargs hR) hi (fun v L' ⟨H', h1, h2⟩ => by subst h2; exact hst v H' h1) (fun v L' ⟨H', h1, h2⟩ => by subst h2; exact hk v H' h1) hg hd hf
end
/-- A slice that this code holds, as rows that are only looked at. -/
theorem RwIn.slH {α : Type} {c : α → List Value} {n el cap : Nat} {a : Option Addr} {xs : List α} {Fr : Nat → Prop} {w : World} (hc : ∀ x, (c x).length = n) (h : SatIn Fr [slH el n a xs.length cap (flat c xs)] w) : RwIn c n Fr w a xs := by
  obtain ⟨F, ⟨ids, G, hF, ⟨h1, h2⟩, hG⟩, hf⟩ := h
  rcases h2 with ⟨rfl, h3, _, _⟩ | ⟨b, rest, rfl, rfl, h4, h5, h6⟩
  · obtain rfl : xs = [] := List.eq_nil_of_length_eq_zero h3
    exact RwIn.nil
  · exact ⟨fun _ => ⟨b, 0, rfl, hf b (by rw [hF]; simp), fun i x hx => rangeAt_blk h6 (by rw [Nat.zero_add]; exact flat_row hc hx rest)⟩⟩
theorem Sub.bl {e' e : Env} {t : Nat} {a b : Bool} (h : look e t = some (Value.bool a)) (hab : a = b) (hs : Sub e' e) : Sub ((t, .bool b) :: e') e := by subst hab; exact Sub.cons h hs
theorem Ret.tmpCell {X : Cx} {fn : Func} {R : Value → List HP → Prop} {e : Env} {L : List HP} {T : TypeId} {ti : TI} {b : Nat} {v u : Value} (q p : Nat) (h : fn.results = #[.tmp q, .cell p T]) (hq : look e q = some u) (hp : look e p = some (.pointer (some ⟨b, 0, none⟩))) (hT : tyLook X.tab T = some ti)
    (hr : RdL X L ti b 0 v) {L' : List HP} (he : Ent X L L') (hR : R (.tuple #[u, v]) L') : Ret X fn R e L :=
  ⟨_, L', ⟨fun a w ha hw => by
    have := run_loadVar (X.ok.look hT) (hr w hw)
    have hp' := ha.at_ p _ hp
    have hq' := ha.at_ q _ hq
    simp only [Array.getD_eq_getD_getElem?] at hp' hq'
    simp [results, h, hp', hq', asAddr, this]⟩, he, hR⟩
end Go.Proofs.YtbbnmgakmcppdaaGreat.Vg
