/- The engine, part W: texts that grow (strings.Builder) beside other pieces: what else there is is no row of bytes. No program is named; nothing is assumed. -/
import Derived.Test.YtbbnmgakmcppdaaGreatVgS
import Derived.Test.YtbbnmgakmcppdaaGreatVgV
import Derived.Lib.OthersKept
namespace Go.Proofs.YtbbnmgakmcppdaaGreat.Vg
open Go
set_option linter.unusedVariables false

/-! ### No row of bytes -/
def NotB (tB : TypeId) (w : World) (x : Nat) : Prop := ∃ o, w.heap[x]? = some o ∧ ∀ c fz, o ≠ .cells c tB fz
def NB (tB : TypeId) (H : HP) : Prop := ∀ ids w, H.sat ids w → ∀ x ∈ ids, NotB tB w x
section
variable {tB : TypeId}
theorem NB.pt {b t : Nat} {cs : List Value} (h : t ≠ tB) : NB tB (pt b cs t) := fun ids w ⟨h1, h2⟩ x hx => by
  subst h1
  simp only [List.mem_singleton] at hx; subst hx
  exact ⟨_, h2, fun c fz e => by cases e; exact h rfl⟩
theorem NB.map {κ α : Type} {c : κ → Value} {d : α → Value} {b : Nat} {xs : List (κ × α)} : NB tB (mapH c d b xs) := fun ids w ⟨h1, es, k, h2, _⟩ x hx => by
  subst h1
  simp only [List.mem_singleton] at hx; subst hx
  exact ⟨_, h2, fun c fz e => by cases e⟩
theorem NB.pure {φ : Prop} : NB tB (hpure φ) := fun ids w ⟨h1, _⟩ x hx => by subst h1; cases hx
theorem NB.ex {α : Type} {f : α → HP} (h : ∀ x, NB tB (f x)) : NB tB (hex f) := fun ids w ⟨x, hx⟩ => h x ids w hx
theorem Sats.nb : ∀ {L : List HP} {F : List Nat} {w : World}, (∀ H ∈ L, NB tB H) → Sats L F w → ∀ x ∈ F, NotB tB w x
  | [], F, w, _, h, x, hx => by cases h; cases hx
  | H :: L, F, w, hL, ⟨i, G, hF, hi, hG⟩, x, hx => by
    subst hF
    rcases List.mem_append.1 hx with hx | hx
    · exact hL H (by simp) i w hi x hx
    · exact Sats.nb (fun K hK => hL K (by simp [hK])) hG x hx
theorem NB.sep {L : List HP} (h : ∀ H ∈ L, NB tB H) : NB tB (hsep L) := fun ids w hs x hx => Sats.nb h hs x hx
theorem NB.sl {el esz n cap : Nat} {a : Option Addr} {cs : List Value} (h : el ≠ tB) : NB tB (slH el esz a n cap cs) := fun ids w ⟨_, hc⟩ x hx => by
  rcases hc with ⟨_, _, _, rfl⟩ | ⟨b, rest, _, rfl, _, _, hb⟩
  · cases hx
  · simp only [List.mem_singleton] at hx; subst hx
    exact ⟨_, hb, fun c fz e => by cases e; exact h rfl⟩
theorem NB.rl {α : Type} {r : RL α} {t : Nat} (h : t ≠ tB) : NB tB (r.h t) := by
  unfold RL.h
  cases r.blk with
  | none => exact NB.pure
  | some b => exact NB.pt h
theorem nb_nil : ∀ H ∈ ([] : List HP), NB tB H := fun _ h => by cases h
theorem nb_cons {H : HP} {L : List HP} (h : NB tB H) (hL : ∀ K ∈ L, NB tB K) : ∀ K ∈ H :: L, NB tB K := fun K hK => by
  rcases List.mem_cons.1 hK with rfl | hK
  · exact h
  · exact hL K hK
end

/-! ### A call, and which blocks else there are -/
theorem OpT.callX {X : Cx} {f : FuncId} {args : Array Operand} {tys : Array TypeId} {e : Env} {L Lc Lr : List HP} {vals : List Value} {R : Value → List HP → Prop}
    (hargs : evs e args.toList = some vals) (hp : L.Perm (Lc ++ Lr))
    (ht : ∀ Fl w, St X L w → Sats Lr Fl w → Tri X.P f vals (fun b => X.Fr b ∨ b ∈ Fl) w Lc R) :
    OpT X (.call ⟨.value (.func f), args, tys⟩) e L (fun v L' => ∃ L1, R v L1 ∧ L' = L1 ++ Lr) := by
  intro a w ha hw dst ty pos after guard
  obtain ⟨F, hs, hnd, hb⟩ := hw.sat.perm hp
  obtain ⟨Fc, Fl, rfl, hsc, hsl⟩ := Sats.append.1 hs
  have T := ht Fl w hw hsl
  have hev : args.map a.eval = vals.toArray := by
    have := ha.evs hargs
    apply Array.toList_inj.1
    simpa using this
  refine .inr (.inr ⟨f, vals.toArray, ?_, ?_⟩)
  · rw [← hev]; exact run_callOp T.callable a args tys dst ty pos after guard w
  · obtain ⟨hnc, hnl, hdis⟩ := List.nodup_append.1 hnd
    refine Calls.mono (T.calls (fun b h => ?_) ⟨Fc, hsc, hnc, fun b h => ⟨fun h' => ?_, (hb b (by simp [h])).2⟩⟩) fun en w' ⟨v, L', h1, h2, h3, h4⟩ => ?_
    · rcases h with h | h
      · exact hw.lowW b h
      · exact (hb b (by simp [h])).2
    · rcases h' with h' | h'
      · exact (hb b (by simp [h])).1 h'
      · exact hdis b h b h' rfl
    · refine ⟨v, L' ++ Lr, h1, ⟨L', h2, rfl⟩, ⟨?_, hw.keep.trans (h4.mono fun b h => .inl h), hw.low⟩⟩
      obtain ⟨G, hG, hGn, hGb⟩ := h3
      refine ⟨G ++ Fl, Sats.append.2 ⟨G, Fl, rfl, hG, hsl.loc fun b h => h4.block b (.inr h)⟩, ?_, ?_⟩
      · exact List.nodup_append.2 ⟨hGn, hnl, fun x hx y hy he => (hGb x hx).1 (.inr (he ▸ hy))⟩
      · intro b h
        rcases List.mem_append.1 h with h | h
        · exact ⟨fun h' => (hGb b h).1 (.inl h'), (hGb b h).2⟩
        · exact ⟨(hb b (by simp [h])).1, Nat.lt_of_lt_of_le (hb b (by simp [h])).2 h4.size⟩
theorem OpT.callXAt {X : Cx} {e : Env} {L : List HP} {f : FuncId} {args : Array Operand} {tys : Array TypeId} {vals : List Value} {H : HP} {R : Value → List HP → Prop} {ψ : Value → HP → Prop} (i : Nat)
    (hL : L[i]? = some H) (ht : ∀ Fl w, St X L w → Sats (L.eraseIdx i) Fl w → Tri X.P f vals (fun b => X.Fr b ∨ b ∈ Fl) w [H] R) (hargs : evs e args.toList = some vals)
    (hR : ∀ v L1, R v L1 → ∃ H', L1 = [H'] ∧ ψ v H') :
    OpT X (.call ⟨.value (.func f), args, tys⟩) e L (fun v L' => ∃ H', ψ v H' ∧ L' = L.set i H') := by
  intro a w ha hw dst ty pos after guard
  have hi : i < L.length := (List.getElem?_eq_some_iff.1 hL).1
  have key : ∀ v w' L', (∃ L1, R v L1 ∧ L' = L1 ++ L.eraseIdx i) → St X L' w' → ∃ L'', (∃ H', ψ v H' ∧ L'' = L.set i H') ∧ St X L'' w' := by
    rintro v w' _ ⟨L1, h1, rfl⟩ hs
    obtain ⟨H', rfl, hψ⟩ := hR v L1 h1
    exact ⟨_, ⟨H', hψ, rfl⟩, Ent.back i H' hi w' hs⟩
  rcases OpT.callX (R := R) hargs (Lc := [H]) (Lr := L.eraseIdx i) (perm_eraseIdx hL) ht a w ha hw dst ty pos after guard with ⟨v, w', L', h1, h2, h3⟩ | ⟨w', L', h1, h2, h3⟩ | ⟨f, args, h1, h2⟩
  · obtain ⟨L'', h4, h5⟩ := key _ _ _ h2 h3
    exact .inl ⟨v, w', L'', h1, h4, h5⟩
  · obtain ⟨L'', h4, h5⟩ := key _ _ _ h2 h3
    exact .inr (.inl ⟨w', L'', h1, h4, h5⟩)
  · refine .inr (.inr ⟨f, args, h1, Calls.mono h2 fun en w' ⟨v, L', h3, h4, h5⟩ => ?_⟩)
    obtain ⟨L'', h6, h7⟩ := key _ _ _ h4 h5
    exact ⟨v, L'', h3, h6, h7⟩

/-! ### A text that grows -/
theorem ownsRowF_loc {w w' : World} {B e n : Nat} {v : Value} {xs : List Value} (h : w.ownsRowF B e 1 v n xs) (hb : ∀ g, v.ownBlock = some g → w'.heap[g]? = w.heap[g]?) : w'.ownsRowF B e 1 v n xs := by
  refine ⟨h.1, h.2.imp id ?_⟩
  rintro ⟨g, cap, cur, fz, rfl, h1, h2, h3⟩
  exact ⟨g, cap, cur, fz, rfl, h1, (hb g rfl).trans h2, h3⟩
def bldF (T el B b : Nat) (bs : List Value) : HP :=
  ⟨fun ids w => ∃ (v : Value) (p : Option Addr), (p = none ∨ p = some ⟨b, 0, none⟩) ∧ ids = bldIds b v ∧ B ≤ b ∧ w.heap[b]? = some (.cells #[.pointer p, v] T (0, 0)) ∧ w.ownsRowF B el 1 v bs.length bs ∧ v.ownBlock ≠ some b,
   fun ids w w' hb ⟨v, p, h1, h2, h3, h4, h5, h6⟩ => ⟨v, p, h1, h2, h3, (hb b (by simp [h2, bldIds])).trans h4, ownsRowF_loc h5 (fun g hg => hb g (by simp [h2, bldIds, hg])), h6⟩⟩
theorem bldF_is {T el B b : Nat} {bs : List Value} {Fr : Nat → Prop} {w : World} (h : Sat Fr [bldF T el B b bs] w) : Lib.IsBuilderF T el B b bs w ∧ B ≤ w.heap.size ∧ ¬ Fr b := by
  obtain ⟨F, ⟨ids, G, hF, ⟨v, p, h1, h2, h3, h4, h5, h6⟩, hG⟩, hn, hb⟩ := h
  have hlt : b < w.heap.size := (Array.getElem?_eq_some_iff.1 h4).1
  refine ⟨?_, by omega, (hb b (by rw [hF, h2]; simp [bldIds])).1⟩
  rcases h1 with rfl | rfl
  · exact .inl ⟨h3, v, h4, h5, h6⟩
  · exact .inr ⟨h3, v, h4, h5, h6⟩
theorem bldF_of {T el B b : Nat} {bs : List Value} {Fr : Nat → Prop} {w w' : World} (hF : ∀ x, Fr x → x < B ∨ NotB el w x) (hk : Lib.OthersKept el (some b) w w') (hb0 : ¬ Fr b) (h : Lib.BuilderAtF T el B b (.pointer (some ⟨b, 0, none⟩)) bs w') : Sat Fr [bldF T el B b bs] w' := by
  obtain ⟨hB, v, h4, h5, h6⟩ := h
  have hlt : b < w'.heap.size := (Array.getElem?_eq_some_iff.1 h4).1
  refine ⟨bldIds b v, ⟨bldIds b v, [], by simp, ⟨v, _, .inr rfl, rfl, hB, h4, h5, h6⟩, rfl⟩, ?_, ?_⟩
  · unfold bldIds
    cases hv : v.ownBlock with
    | none => simp
    | some g =>
      simp only [Option.toList_some, List.nodup_cons, List.mem_singleton, List.not_mem_nil, not_false_eq_true, List.nodup_nil, and_self, and_true]
      intro e; exact h6 (by rw [hv, e])
  · intro x hx
    unfold bldIds at hx
    rcases List.mem_cons.1 hx with rfl | hx
    · exact ⟨hb0, hlt⟩
    · have hv : v.ownBlock = some x := by simpa using hx
      obtain ⟨h7, h8⟩ := h5.lt x hv
      refine ⟨fun h => ?_, h8⟩
      rcases hF x h with h9 | ⟨o, ho, hne⟩
      · omega
      · have hxb : some x ≠ some b := fun e => by rw [← e] at h6; exact h6 hv
        have := hk x o ho hxb hne
        rcases h5.2 with ⟨h10, _⟩ | ⟨g, cap, cur, fz, h10, _, h11, _⟩
        · rw [h10] at hv; cases hv
        · rw [h10] at hv
          obtain rfl : g = x := by simpa [Value.ownBlock] using hv
          rw [h11] at this
          exact hne cur fz (Option.some.inj this).symm
/-- A builder that nothing was written into. -/
theorem Imp.bldF {L M : List HP} {T el B b : Nat} (hB : B ≤ b) (h : Imp L (pt b [.pointer none, .slice none 0 0] T :: M)) : Imp L (bldF T el B b [] :: M) := fun w F hs hn => by
  obtain ⟨F', ⟨G, K, rfl, ⟨rfl, hG⟩, hK⟩, h2, h3⟩ := h w F hs hn
  exact ⟨[b] ++ K, ⟨[b], K, rfl, ⟨.slice none 0 0, none, .inl rfl, rfl, hB, hG, World.ownsRowF_nil _ _ _ _, by simp [Value.ownBlock]⟩, hK⟩, h2, h3⟩
theorem keep_others {Fr : Nat → Prop} {B tB b : Nat} {w w' : World} (hF : ∀ x, Fr x → x < B ∨ NotB tB w x) (hb0 : ¬ Fr b) (h : RowKit.Below B w w') (hk : Lib.OthersKept tB (some b) w w') : Keep Fr w w' :=
  ⟨h.os, h.tape, h.output, h.size, fun x hx => by
    rcases hF x hx with h9 | ⟨o, ho, hne⟩
    · exact h.block x h9
    · rw [ho]
      exact hk x o ho (fun e => hb0 ((Option.some.inj e) ▸ hx)) hne⟩

/-! ### Lists of rows, read -/
theorem flat_one {α : Type} (f : α → Value) (l : List α) : flat (fun x => [f x]) l = l.map f := by
  induction l with
  | nil => rfl
  | cons x l ih => rw [flat_cons, ih]; rfl
theorem RL.Ok.ld {α : Type} {c : α → List Value} {n t : Nat} {r : RL α} (h : r.Ok c n) {k : Nat} {x : α} (hx : r.xs[k]? = some x) (hc : (c x).length = n) : ∃ b off, r.blk = some b ∧ r.addr = some ⟨b, off, Option.none⟩ ∧
    ∀ {X : Cx} {L : List HP} (i : Nat), L[i]? = some (r.h t) → (∀ ti : TI, n = ti.size → ti.und.agg = true → RdL X L ti b (off + k * n) (.agg (c x).toArray)) ∧
      ∀ (ti : TI) (j : Nat) (v : Value), ti.und.agg = false → (c x)[j]? = some v → RdL X L ti b (off + k * n + j) v := by
  obtain ⟨b, off, h1, h2, h3⟩ := h.nth hx
  refine ⟨b, off, h1, h2, fun {X L} i hL => ?_⟩
  rw [RL.h_pt h1] at hL
  refine ⟨fun ti hn ha => RdL.many i hL (by rw [← hn]; exact h3) (by rw [hc, hn]) ha, fun ti j v ha hv => RdL.one i hL ?_ ha⟩
  rw [← h3, List.getElem?_take] at hv
  split at hv
  · rw [List.getElem?_drop] at hv; exact hv
  · cases hv
end Go.Proofs.YtbbnmgakmcppdaaGreat.Vg
