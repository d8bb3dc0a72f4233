/- The engine, part I: rows in blocks, what is only looked at, calls that leave all pieces as they are. No program is named; nothing is assumed. -/
import Derived.Test.YtbbnmgakmcppdaaGreatVgH
import Derived.Scope
namespace Go.Proofs.YtbbnmgakmcppdaaGreat.Vg
open Go

/-! ### Rows of a block -/
def flat {α : Type} (c : α → List Value) (l : List α) : List Value := (l.map c).flatten

section
variable {α : Type} {c : α → List Value} {n : Nat}
theorem flat_nil : flat c [] = [] := rfl
theorem flat_cons (a : α) (l : List α) : flat c (a :: l) = c a ++ flat c l := by simp [flat]
theorem flat_append (l m : List α) : flat c (l ++ m) = flat c l ++ flat c m := by simp [flat]
theorem flat_len (h : ∀ a, (c a).length = n) : ∀ l : List α, (flat c l).length = l.length * n
  | [] => by simp [flat]
  | a :: l => by rw [flat_cons, List.length_append, h, flat_len h l, List.length_cons, Nat.add_mul, Nat.one_mul, Nat.add_comm]
theorem flat_drop (h : ∀ a, (c a).length = n) : ∀ (i : Nat) (l : List α) (rest : List Value), i ≤ l.length → (flat c l ++ rest).drop (i * n) = flat c (l.drop i) ++ rest
  | 0, l, rest, _ => by simp
  | i + 1, [], rest, hi => by simp at hi
  | i + 1, a :: l, rest, hi => by
    rw [flat_cons, Nat.add_mul, Nat.one_mul, Nat.add_comm (i * n), List.append_assoc, ← List.drop_drop]
    have : (c a ++ (flat c l ++ rest)).drop n = flat c l ++ rest := by rw [← h a]; simp
    rw [this, flat_drop h i l rest (by simpa using hi)]; rfl
theorem flat_row (h : ∀ a, (c a).length = n) {i : Nat} {l : List α} {a : α} (ha : l[i]? = some a) (rest : List Value) : ((flat c l ++ rest).drop (i * n)).take n = c a := by
  have hi : i < l.length := (List.getElem?_eq_some_iff.1 ha).1
  rw [flat_drop h i l rest (Nat.le_of_lt hi), List.drop_eq_getElem_cons hi, (List.getElem?_eq_some_iff.1 ha).2, flat_cons, List.append_assoc, ← h a]
  simp
theorem flat_cell (h : ∀ a, (c a).length = n) {i j : Nat} {l : List α} {a : α} {v : Value} (ha : l[i]? = some a) (hj : (c a)[j]? = some v) (rest : List Value) : (flat c l ++ rest)[i * n + j]? = some v := by
  have hjn : j < n := by rw [← h a]; exact (List.getElem?_eq_some_iff.1 hj).1
  have := flat_row h ha rest
  rw [← this, List.getElem?_take, if_pos hjn, List.getElem?_drop] at hj
  exact hj
theorem flat_set (h : ∀ a, (c a).length = n) : ∀ {i : Nat} {l : List α} (a : α) (rest : List Value), i < l.length → wrC (flat c l ++ rest) (i * n) (c a) = flat c (l.set i a) ++ rest
  | 0, [], a, rest, hi => by simp at hi
  | 0, b :: l, a, rest, _ => by
    simp only [wrC, List.set_cons_zero, flat_cons, Nat.zero_mul, List.take_zero, List.nil_append, Nat.zero_add, List.append_assoc]
    have : (c b ++ (flat c l ++ rest)).drop (c a).length = flat c l ++ rest := by rw [h a, ← h b]; simp
    rw [this]
  | i + 1, [], a, rest, hi => by simp at hi
  | i + 1, b :: l, a, rest, hi => by
    have ih := flat_set h (i := i) (l := l) a rest (by simpa using hi)
    have e : (i + 1) * n = (c b).length + i * n := by rw [h b, Nat.add_mul]; omega
    simp only [List.set_cons_succ, flat_cons, List.append_assoc]
    unfold wrC at ih ⊢
    rw [e, List.take_length_add_append, Nat.add_assoc, List.drop_length_add_append, ← ih]
    simp
theorem flat_setCell (h : ∀ a, (c a).length = n) {i j : Nat} {l : List α} {a a' : α} {v : Value} (ha : l[i]? = some a) (hj : j < n) (hc : (c a).set j v = c a') (rest : List Value) : (flat c l ++ rest).set (i * n + j) v = flat c (l.set i a') ++ rest := by
  have hi : i < l.length := (List.getElem?_eq_some_iff.1 ha).1
  have hL : (flat c l ++ rest).length = l.length * n + rest.length := by rw [List.length_append, flat_len h]
  have h1 := flat_set h a' rest hi
  rw [← h1, ← hc]
  have hle : (i + 1) * n ≤ l.length * n := Nat.mul_le_mul_right n hi
  rw [Nat.add_mul, Nat.one_mul] at hle
  have hr := flat_row h ha rest
  apply List.ext_getElem?
  intro k
  unfold wrC
  rw [List.append_assoc, List.getElem?_append, List.getElem?_append]
  have hca := h a
  simp only [List.length_set, List.length_take, hca, hL]
  rw [Nat.min_eq_left (by omega)]
  split
  · rw [List.getElem?_set_ne (by omega), List.getElem?_take, if_pos (by assumption)]
  · rename_i hk
    split
    · rename_i hk2
      by_cases hkj : k = i * n + j
      · subst hkj
        rw [List.getElem?_set_self (by omega), Nat.add_sub_cancel_left, List.getElem?_set_self (by omega)]
      · rw [List.getElem?_set_ne (by omega), List.getElem?_set_ne (by omega), ← hr, List.getElem?_take, if_pos hk2, List.getElem?_drop]
        congr 1; omega
    · rename_i hk2
      rw [List.getElem?_set_ne (by omega), List.getElem?_drop]
      congr 1; omega
theorem flat_replicate (m : Nat) (a : α) : (List.replicate m (c a)).flatten = flat c (List.replicate m a) := by simp [flat]
theorem flat_all {p : Value → Bool} (h : ∀ a, (c a).all p = true) (l : List α) : (flat c l).all p = true := by
  rw [List.all_eq_true]; intro v hv
  obtain ⟨r, hr, hv⟩ := List.mem_flatten.1 hv
  obtain ⟨a, _, rfl⟩ := List.mem_map.1 hr
  exact List.all_eq_true.1 (h a) v hv
end

/-! ### What is only looked at -/
theorem SatIn.at_ {Fr : Nat → Prop} {L : List HP} {w : World} (h : SatIn Fr L w) (i : Nat) {H : HP} (hL : L[i]? = some H) : SatIn Fr [H] w := by
  obtain ⟨F, hs, hf⟩ := h
  obtain ⟨ids, h1, h2⟩ := hs.get hL
  exact ⟨ids, ⟨ids, [], by simp, h1, rfl⟩, fun b hb => hf b (h2 b hb)⟩
theorem SatIn.ex {Fr : Nat → Prop} {α : Type} {f : α → HP} {w : World} (h : SatIn Fr [hex f] w) : ∃ x, SatIn Fr [f x] w := by
  obtain ⟨F, ⟨ids, G, hF, ⟨x, hx⟩, hG⟩, hf⟩ := h
  exact ⟨x, F, ⟨ids, G, hF, hx, hG⟩, hf⟩
theorem SatIn.sep {Fr : Nat → Prop} {L : List HP} {w : World} (h : SatIn Fr [hsep L] w) : SatIn Fr L w := by
  obtain ⟨F, ⟨ids, G, hF, hx, hG⟩, hf⟩ := h
  exact ⟨ids, hx, fun b hb => hf b (by rw [hF]; exact List.mem_append.2 (.inl hb))⟩
theorem SatIn.pure {Fr : Nat → Prop} {L : List HP} {w : World} (h : SatIn Fr L w) (i : Nat) {φ : Prop} (hL : L[i]? = some (hpure φ)) : φ := by
  obtain ⟨F, hs, hf⟩ := h
  obtain ⟨ids, h1, h2⟩ := hs.get hL
  exact h1.2
theorem SatIn.tail {Fr : Nat → Prop} {H : HP} {L : List HP} {w : World} (h : SatIn Fr (H :: L) w) : SatIn Fr L w := by
  obtain ⟨F, ⟨G, K, rfl, _, hK⟩, hf⟩ := h
  exact ⟨K, hK, fun b hb => hf b (List.mem_append.2 (.inr hb))⟩
theorem SatIn.shut {Fr : Nat → Prop} {α : Type} {φ : α → Prop} {Ls : α → List HP} {w : World} (x : α) (hx : φ x) (h : SatIn Fr (Ls x) w) : SatIn Fr [hex fun x => hsep (hpure (φ x) :: Ls x)] w := by
  obtain ⟨F, hs, hf⟩ := h
  exact ⟨F, ⟨F, [], by simp, ⟨x, [], F, rfl, ⟨rfl, hx⟩, hs⟩, rfl⟩, hf⟩
theorem SatIn.of {X : Cx} {Fr' : Nat → Prop} {L : List HP} (hw : SatIn X.Fr L X.w0) (hF : ∀ b, X.Fr b → Fr' b) {M : List HP} {w' : World} (hs : St X M w') : SatIn Fr' L w' := by
  obtain ⟨F, h1, h2⟩ := hw
  exact ⟨F, h1.loc (fun b hb => hs.keep.block b (h2 b hb)), fun b hb => hF b (h2 b hb)⟩
theorem SatIn.mono {Fr Fr' : Nat → Prop} {L : List HP} {w : World} (h : SatIn Fr L w) (hF : ∀ b, Fr b → Fr' b) : SatIn Fr' L w := by
  obtain ⟨F, h1, h2⟩ := h
  exact ⟨F, h1, fun b hb => hF b (h2 b hb)⟩
theorem Blk.of {X : Cx} {b : Nat} {cs : List Value} (h : Blk X.Fr X.w0 b cs) {Fr' : Nat → Prop} (hF : ∀ b, X.Fr b → Fr' b) {w : World} {L : List HP} (hw : St X L w) : Blk Fr' w b cs := h.keep hF hw

section
variable {X : Cx} {ops : Array Oper} {G : GS} {l : List Oper} {pl : Plan} {S : Pend} {e : Env} {L : List HP} {K : Env → List HP → Prop}
  {dst : Option Tmp} {ty : TypeId} {pos : String} {after : Array Edge} {guard : Option (Nat × Bool)}

theorem OpT.callP {φ : Value → Prop} {f : FuncId} {args : Array Operand} {tys : Array TypeId} {vals : List Value}
    (ht : ∀ Fr' w, (∀ b, X.Fr b → Fr' b) → St X L w → SatIn Fr' L w → Tri X.P f vals Fr' w [] (fun v L => φ v ∧ L = [])) (hargs : evs e args.toList = some vals) :
    OpT X (.call ⟨.value (.func f), args, tys⟩) e L (fun v L' => φ v ∧ L' = L) := by
  intro a w ha hw dst ty pos after guard
  rcases OpT.call (R := fun v L => φ v ∧ L = []) hargs (Lc := []) (Lr := L) (.refl _) ht a w ha hw dst ty pos after guard with ⟨v, w', L', h1, ⟨L1, ⟨h2, h3⟩, h4⟩, h5⟩ | ⟨w', L', h1, ⟨L1, ⟨h2, h3⟩, h4⟩, h5⟩ | ⟨f, args, h1, h2⟩
  · exact .inl ⟨v, w', L', h1, ⟨h2, by rw [h4, h3]; rfl⟩, h5⟩
  · exact .inr (.inl ⟨w', L', h1, ⟨h2, by rw [h4, h3]; rfl⟩, h5⟩)
  · refine .inr (.inr ⟨f, args, h1, Calls.mono h2 fun en w' ⟨v, L', h3, ⟨L1, ⟨h4, h5⟩, h6⟩, h7⟩ => ⟨v, L', h3, ⟨h4, by rw [h6, h5]; rfl⟩, h7⟩⟩)

/-- A call that leaves all pieces as they are and yields a value of which something is known. -/
theorem VO.callP {φ : Value → Prop} {f : FuncId} {args : Array Operand} {tys : Array TypeId} {vals : List Value}
    (ht : ∀ Fr' w, (∀ b, X.Fr b → Fr' b) → St X L w → SatIn Fr' L w → Tri X.P f vals Fr' w [] (fun v L => φ v ∧ L = [])) (hargs : evs e args.toList = some vals)
    (hk : ∀ v, φ v → VO X ops G l (putE dst v e) L K)
    (hg : gOn ops G guard = some true := by rfl) (hd : dstOk X.n dst = true := by rfl) (hf : gFree G dst = true := by rfl) :
    VO X ops G (⟨dst, .call ⟨.value (.func f), args, tys⟩, ty, pos, after, guard⟩ :: l) e L K :=
  VO.op hg hd hf (OpT.callP ht hargs) fun v L' ⟨h1, h2⟩ => by subst h2; exact hk v h1

/-- A call that leaves all pieces as they are and yields this value. -/
theorem VO.callV' {u : Value} {f : FuncId} {args : Array Operand} {tys : Array TypeId} {vals : List Value}
    (ht : ∀ Fr' w, (∀ b, X.Fr b → Fr' b) → St X L w → SatIn Fr' L w → Tri X.P f vals Fr' w [] (fun v L => v = u ∧ L = [])) (hargs : evs e args.toList = some vals)
    (hk : VO X ops G l (putE dst u e) L K)
    (hg : gOn ops G guard = some true := by rfl) (hd : dstOk X.n dst = true := by rfl) (hf : gFree G dst = true := by rfl) :
    VO X ops G (⟨dst, .call ⟨.value (.func f), args, tys⟩, ty, pos, after, guard⟩ :: l) e L K :=
  VO.callP ht hargs (fun v h => by subst h; exact hk) hg hd hf

theorem VA.callP {φ : Value → Prop} {f : FuncId} {args : Array Operand} {tys : Array TypeId} {vals : List Value} {i : Nat}
    (ht : ∀ Fr' w, (∀ b, X.Fr b → Fr' b) → St X L w → SatIn Fr' L w → Tri X.P f vals Fr' w [] (fun v L => φ v ∧ L = []))
    (hi : ops.toList[i]? = some ⟨dst, .call ⟨.value (.func f), args, tys⟩, ty, pos, after, guard⟩) (hargs : evs e args.toList = some vals)
    (hst : ∀ w, St X L w → ∀ p ∈ S, waits ops i p.1 = false → p.2 w)
    (hk : ∀ v, φ v → VA X ops G pl (S.filter fun p => !waits ops i p.1) (putE dst v e) L K)
    (hg : gOn ops G guard = some true := by rfl) (hd : dstOk X.n dst = true := by rfl) (hf : gFree G dst = true := by rfl) : VA X ops G (.only i pl) S e L K :=
  VA.op (M := fun v L' => φ v ∧ L' = L) hi hg hd hf (OpT.callP ht hargs) (fun v L' ⟨_, h2⟩ w hw => by subst h2; exact hst w hw) (fun v L' ⟨h1, h2⟩ => by subst h2; exact hk v h1)

/-- What was read ahead stays readable while these are the pieces. -/
def Pd (X : Cx) (L : List HP) (S : Pend) : Prop := ∀ p ∈ S, ∀ w, St X L w → p.2 w
theorem Pd.nil : Pd X L [] := fun _ h => by cases h
theorem Pd.cons {ti : TI} {b off i : Nat} {v : Value} (h : RdL X L ti b off v) (hs : Pd X L S) : Pd X L ((i, Rd ti.und.agg ti.size b off v) :: S) := fun p hp w hw => by
  rcases List.mem_cons.1 hp with rfl | hp
  · exact h w hw
  · exact hs p hp w hw
theorem Pd.filter {f : Nat × (World → Prop) → Bool} (hs : Pd X L S) : Pd X L (S.filter f) := fun p hp => hs p (List.mem_filter.1 hp).1
theorem Pd.fnil {f : Nat × (World → Prop) → Bool} : Pd X L (([] : Pend).filter f) := fun _ h => by cases h
theorem Pd.inner {f g : Nat × (World → Prop) → Bool} (h : Pd X L (S.filter g)) : Pd X L ((S.filter f).filter g) := fun p hp => by
  obtain ⟨h1, h2⟩ := List.mem_filter.1 hp
  exact h p (List.mem_filter.2 ⟨(List.mem_filter.1 h1).1, h2⟩)
theorem Pd.skip {i j : Nat} {φ : World → Prop} (hf : waits ops j i = true) (h : Pd X L (S.filter fun p => !waits ops j p.1)) : Pd X L (((i, φ) :: S : Pend).filter fun p => !waits ops j p.1) := by
  rw [List.filter_cons_of_neg (by simp [hf])]; exact h
theorem Pd.fcons {f : Nat × (World → Prop) → Bool} {ti : TI} {b off i : Nat} {v : Value} (h : RdL X L ti b off v) (hs : Pd X L (S.filter f)) : Pd X L (((i, Rd ti.und.agg ti.size b off v) :: S).filter f) := fun p hp => by
  obtain ⟨h1, h2⟩ := List.mem_filter.1 hp
  rcases List.mem_cons.1 h1 with rfl | h1
  · exact fun w hw => h w hw
  · exact hs p (List.mem_filter.2 ⟨h1, h2⟩)
theorem Pd.st (hs : Pd X L S) {i : Nat} : ∀ w, St X L w → ∀ p ∈ S, waits ops i p.1 = false → p.2 w := fun w hw p hp _ => hs p hp w hw
/-- Any operation that is the only one ready. -/
theorem VA.opP {i : Nat} {o : Oper} {M : Value → List HP → Prop} (h : OpT X o.op e L M) (hi : ops.toList[i]? = some o)
    (hst : ∀ v L', M v L' → Pd X L' (S.filter fun p => !waits ops i p.1))
    (hk : ∀ v L', M v L' → VA X ops G pl (S.filter fun p => !waits ops i p.1) (putE o.dst v e) L' K)
    (hg : gOn ops G o.guard = some true := by rfl) (hd : dstOk X.n o.dst = true := by rfl) (hf : gFree G o.dst = true := by rfl) : VA X ops G (.only i pl) S e L K :=
  VA.op hi hg hd hf h (fun v L' hm w hw p hp hq => hst v L' hm p (List.mem_filter.2 ⟨hp, by simp [hq]⟩) w hw) hk
theorem OpT.mono {op : Op} {M N : Value → List HP → Prop} (h : OpT X op e L M) (hm : ∀ v L', M v L' → N v L') : OpT X op e L N := fun a w ha hw dst ty pos after guard => by
  rcases h a w ha hw dst ty pos after guard with ⟨v, w', L', h1, h2, h3⟩ | ⟨w', L', h1, h2, h3⟩ | ⟨f, args, h1, h2⟩
  · exact .inl ⟨v, w', L', h1, hm _ _ h2, h3⟩
  · exact .inr (.inl ⟨w', L', h1, hm _ _ h2, h3⟩)
  · exact .inr (.inr ⟨f, args, h1, Calls.mono h2 fun en w' ⟨v, L', h3, h4, h5⟩ => ⟨v, L', h3, hm _ _ h4, h5⟩⟩)
/-- A store of a struct, the only one ready. -/
theorem VA.stA {j : Nat} {T : TypeId} {x y : Operand} {ti : TI} {b off t : Nat} {cs cs' vs : List Value} {L' : List HP} (i : Nat) (hi : ops.toList[j]? = some ⟨dst, .store T x y, ty, pos, after, guard⟩) (hx : ev e x = some (.pointer (some ⟨b, off, none⟩))) (hy : ev e y = some (.agg vs.toArray)) (hL : L[i]? = some (pt b cs t))
    (hT : tyLook X.tab T = some ti) (hl : off + vs.length ≤ cs.length) (hcs : wrC cs off vs = cs') (hL' : L.set i (pt b cs' t) = L') (h1 : vs.all Value.oneCell' = true) (hst : Pd X L' (S.filter fun p => !waits ops j p.1))
    (hk : VA X ops G pl (S.filter fun p => !waits ops j p.1) (putE dst undef e) L' K) (hs : vs.length = ti.size := by rfl)
    (hg : gOn ops G guard = some true := by rfl) (hd : dstOk X.n dst = true := by rfl) (hf : gFree G dst = true := by rfl) : VA X ops G (.only j pl) S e L K := by
  subst hcs; subst hL'
  exact VA.opP (OpT.store (vs := vs) i hx hy hL hT rfl hs hl h1) hi (fun v L' ⟨h3, h4⟩ => by subst h4; exact hst) (fun v L' ⟨h3, h4⟩ => by subst h3; subst h4; exact hk) hg hd hf
theorem VA.st {j : Nat} {T : TypeId} {x y : Operand} {ti : TI} {b off t : Nat} {cs cs' : List Value} {v : Value} {L' : List HP} (i : Nat) (hi : ops.toList[j]? = some ⟨dst, .store T x y, ty, pos, after, guard⟩) (hx : ev e x = some (.pointer (some ⟨b, off, none⟩))) (hy : ev e y = some v) (hL : L[i]? = some (pt b cs t))
    (hT : tyLook X.tab T = some ti) (hlt : off < cs.length) (hcs : cs.set off v = cs') (hL' : L.set i (pt b cs' t) = L') (hst : Pd X L' (S.filter fun p => !waits ops j p.1))
    (hk : VA X ops G pl (S.filter fun p => !waits ops j p.1) (putE dst undef e) L' K) (h1 : v.oneCell' = true := by rfl) (hv : v.cells = #[v] := by rfl) (hsz : ti.size = 1 := by rfl)
    (hg : gOn ops G guard = some true := by rfl) (hd : dstOk X.n dst = true := by rfl) (hf : gFree G dst = true := by rfl) : VA X ops G (.only j pl) S e L K := by
  subst hcs; subst hL'
  exact VA.opP (OpT.store (vs := [v]) i hx hy hL hT hv (by simp [hsz]) (by simp; omega) (by simp [h1])) hi (fun v' L' ⟨h3, h4⟩ => by subst h4; rw [wrC_one _ _ _ hlt]; exact hst) (fun v' L' ⟨h3, h4⟩ => by subst h3; subst h4; rw [wrC_one _ _ _ hlt]; exact hk) hg hd hf
end

/-! ### A scope that is not jumped within -/
def scopeQ (Q : Exit → Env → List HP → Prop) : Exit → Env → List HP → Prop
  | .goto _, _, _ => False
  | x, e, L => Q x e L
theorem VC.scope {X : Cx} {c : Code} {e : Env} {L : List HP} {Q : Exit → Env → List HP → Prop} (h : VC X c e L (scopeQ Q)) : VC X (.scope c) e L Q := fun a w ha hw =>
  wp_scope_straight (Code.wp_mono (fun x a' w' h => by
    obtain ⟨e', L', h1, h2, h3⟩ := h
    cases x <;> first | exact ⟨e', L', h1, h2, h3⟩ | exact h3) (h a w ha hw))

/-- A piece to the front, and back again. -/
theorem Ent.front {X : Cx} {L : List HP} {H : HP} (i : Nat) (h : L[i]? = some H) : Ent X L (H :: L.eraseIdx i) := (Imp.perm (perm_eraseIdx h)).ent
theorem perm_set : ∀ {L : List HP} {i : Nat} (H : HP), i < L.length → (H :: L.eraseIdx i).Perm (L.set i H)
  | [], _, _, h => by simp at h
  | _ :: L, 0, H, _ => by simp
  | x :: L, i + 1, H, h => (List.Perm.swap x H _).trans ((perm_set H (by simpa using h)).cons x)
theorem Ent.back {X : Cx} {L : List HP} (i : Nat) (H : HP) (h : i < L.length) : Ent X (H :: L.eraseIdx i) (L.set i H) := (Imp.perm (perm_set H h)).ent
/-- An array's value. -/
theorem light_buildArr {X : Cx} {e : Env} {T : TypeId} {parts : Array (Nat × Operand)} {ti te : TI} {n el : Nat} {pv : List (Nat × Value)} (cells : List Value) (hT : tyLook X.tab T = some ti) (hu : ti.und = .array n el) (hE : tyLook X.tab el = some te)
    (hp : evP e parts.toList = some pv) (hfill : fillL (fun i => some (i * te.size, te.size)) ti.zs pv = some cells) : Light X (.build T parts) e (.agg cells.toArray) := by
  intro a ha dst ty pos after guard w
  have hok := X.ok.look hT
  have hund := und_array hok hu
  obtain ⟨i2, hi2, hs2, _, _⟩ := (X.ok.look hE).info'
  have hparts : parts.map (fun p => (p.1, a.eval p.2)) = pv.toArray := by
    apply Array.toList_inj.1
    simpa using ha.evP hp
  have hf := fill_fillL hfill
  have hb : (Instr.build T pv.toArray).run X.P w = .ok (.agg cells.toArray) w := by
    unfold Instr.build
    simp only [Sem.run_bind, run_zero hok, Result.andThen_ok, run_underlying hund, run_size hi2, hok.zero, hs2]
    simp only [hf, Sem.run_pure]
  simp only [execOp]
  rw [Sem.run_bind]
  have : (parts.map fun x => match x with | (i, x) => (i, a.eval x)) = pv.toArray := hparts
  rw [this, hb]; rfl
theorem Imp.of_eq {L M : List HP} (h : L = M) : Imp L M := h ▸ Imp.refl
theorem Ent.of_eq {X : Cx} {L M : List HP} (h : L = M) : Ent X L M := h ▸ Ent.refl

section
variable {X : Cx} {ops : Array Oper} {G : GS} {l : List Oper} {pl : Plan} {S : Pend} {e : Env} {L : List HP} {K : Env → List HP → Prop}
  {dst : Option Tmp} {ty : TypeId} {pos : String} {after : Array Edge} {guard : Option (Nat × Bool)}
theorem OpT.callAt {f : FuncId} {args : Array Operand} {tys : Array TypeId} {vals : List Value} {H : HP} {R : Value → List HP → Prop} {ψ : Value → HP → Prop} (i : Nat)
    (hL : L[i]? = some H) (ht : ∀ Fr' w, (∀ b, X.Fr b → Fr' b) → St X L w → SatIn Fr' (L.eraseIdx i) w → Tri X.P f vals Fr' w [H] R) (hargs : evs e args.toList = some vals)
    (hR : ∀ v L1, R v L1 → ∃ H', L1 = [H'] ∧ ψ v H') :
    OpT X (.call ⟨.value (.func f), args, tys⟩) e L (fun v L' => ∃ H', ψ v H' ∧ L' = L.set i H') := by
  intro a w ha hw dst ty pos after guard
  have hi : i < L.length := (List.getElem?_eq_some_iff.1 hL).1
  have key : ∀ v w' L', (∃ L1, R v L1 ∧ L' = L1 ++ L.eraseIdx i) → St X L' w' → ∃ L'', (∃ H', ψ v H' ∧ L'' = L.set i H') ∧ St X L'' w' := by
    rintro v w' _ ⟨L1, h1, rfl⟩ hs
    obtain ⟨H', rfl, hψ⟩ := hR v L1 h1
    exact ⟨_, ⟨H', hψ, rfl⟩, Ent.back i H' hi w' hs⟩
  rcases OpT.call (R := R) hargs (Lc := [H]) (Lr := L.eraseIdx i) (perm_eraseIdx hL) ht a w ha hw dst ty pos after guard with ⟨v, w', L', h1, h2, h3⟩ | ⟨w', L', h1, h2, h3⟩ | ⟨f, args, h1, h2⟩
  · obtain ⟨L'', h4, h5⟩ := key _ _ _ h2 h3
    exact .inl ⟨v, w', L'', h1, h4, h5⟩
  · obtain ⟨L'', h4, h5⟩ := key _ _ _ h2 h3
    exact .inr (.inl ⟨w', L'', h1, h4, h5⟩)
  · refine .inr (.inr ⟨f, args, h1, Calls.mono h2 fun en w' ⟨v, L', h3, h4, h5⟩ => ?_⟩)
    obtain ⟨L'', h6, h7⟩ := key _ _ _ h4 h5
    exact ⟨v, L'', h3, h6, h7⟩
/-- A call that is given piece i, and gives one back. -/
theorem VO.callAt {f : FuncId} {args : Array Operand} {tys : Array TypeId} {vals : List Value} {H : HP} {R : Value → List HP → Prop} {ψ : Value → HP → Prop} (i : Nat)
    (hL : L[i]? = some H) (ht : ∀ Fr' w, (∀ b, X.Fr b → Fr' b) → St X L w → SatIn Fr' (L.eraseIdx i) w → Tri X.P f vals Fr' w [H] R) (hargs : evs e args.toList = some vals)
    (hR : ∀ v L1, R v L1 → ∃ H', L1 = [H'] ∧ ψ v H') (hk : ∀ v H', ψ v H' → VO X ops G l (putE dst v e) (L.set i H') K)
    (hg : gOn ops G guard = some true := by rfl) (hd : dstOk X.n dst = true := by rfl) (hf : gFree G dst = true := by rfl) :
    VO X ops G (⟨dst, .call ⟨.value (.func f), args, tys⟩, ty, pos, after, guard⟩ :: l) e L K :=
  VO.op hg hd hf (OpT.callAt i hL ht hargs hR) fun v L' ⟨H', h1, h2⟩ => by subst h2; exact hk v H' h1
theorem VA.callAt {j : Nat} {f : FuncId} {args : Array Operand} {tys : Array TypeId} {vals : List Value} {H : HP} {R : Value → List HP → Prop} {ψ : Value → HP → Prop} (i : Nat)
    (hL : L[i]? = some H) (ht : ∀ Fr' w, (∀ b, X.Fr b → Fr' b) → St X L w → SatIn Fr' (L.eraseIdx i) w → Tri X.P f vals Fr' w [H] R)
    (hi : ops.toList[j]? = some ⟨dst, .call ⟨.value (.func f), args, tys⟩, ty, pos, after, guard⟩) (hargs : evs e args.toList = some vals)
    (hR : ∀ v L1, R v L1 → ∃ H', L1 = [H'] ∧ ψ v H') (hst : ∀ v H', ψ v H' → Pd X (L.set i H') (S.filter fun p => !waits ops j p.1))
    (hk : ∀ v H', ψ v H' → VA X ops G pl (S.filter fun p => !waits ops j p.1) (putE dst v e) (L.set i H') K)
    (hg : gOn ops G guard = some true := by rfl) (hd : dstOk X.n dst = true := by rfl) (hf : gFree G dst = true := by rfl) : VA X ops G (.only j pl) S e L K :=
  VA.opP (OpT.callAt i hL ht hargs hR) hi (fun v L' ⟨H', h1, h2⟩ => by subst h2; exact hst v H' h1) (fun v L' ⟨H', h1, h2⟩ => by subst h2; exact hk v H' h1) hg hd hf
end

/-! ### Short names, for what programs print -/
theorem zS : type_of% @VC.seq := @VC.seq
theorem zR : type_of% @VC.region := @VC.region
theorem zB : type_of% @VC.block := @VC.block
theorem zL : type_of% @VC.label := @VC.label
theorem zC : type_of% @VC.scope := @VC.scope
theorem zG : type_of% @VO.go := @VO.go
theorem zN : type_of% @VO.nil := @VO.nil
theorem zD : type_of% @VO.ld := @VO.ld
theorem zE : type_of% @VO.load := @VO.load
theorem yG : type_of% @VA.go := @VA.go
theorem yN : type_of% @VA.nil := @VA.nil
theorem yD : type_of% @VA.ld := @VA.ld
theorem yE : type_of% @VA.load := @VA.load
theorem zo : type_of% @RdL.one := @RdL.one
theorem zm : type_of% @RdL.many := @RdL.many
theorem zf : type_of% @Pd.fcons := @Pd.fcons
theorem zc : type_of% @Pd.cons := @Pd.cons
end Go.Proofs.YtbbnmgakmcppdaaGreat.Vg
