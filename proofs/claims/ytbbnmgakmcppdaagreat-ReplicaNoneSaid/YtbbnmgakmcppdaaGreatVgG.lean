/- The engine, part G: made slices, pieces opened and shut, calls with pieces, results in memory. No program is named; nothing is assumed. -/
import Derived.Test.YtbbnmgakmcppdaaGreatVgF
namespace Go.Proofs.YtbbnmgakmcppdaaGreat.Vg
open Go

theorem flat_zero (n : Nat) (zs : List Value) (s : Nat) (hs : zs.length = s) : ((Array.range (n * s)).map (zs.toArray[· % zs.toArray.size]!)) = ((List.replicate n zs).flatten).toArray := by
  apply Array.toList_inj.1
  simp only [Array.toList_map, Array.toList_range]
  subst hs
  induction n with
  | zero => simp
  | succ n ih =>
    rw [List.replicate_succ', List.flatten_append, ← ih, Nat.succ_mul, List.range_add, List.map_append]
    congr 1
    simp only [List.flatten_cons, List.flatten_nil, List.append_nil, List.map_map]
    apply List.ext_getElem
    · simp
    · intro i h1 h2
      simp at h1
      simp [Nat.mul_add_mod_of_lt h1, h1]

/-! ### Readable blocks; what a callee is told of pieces that it is not given -/
structure Blk (Fr : Nat → Prop) (w : World) (b : Nat) (cs : List Value) : Prop where
  fr : Fr b
  at_ : ∃ t fz, w.heap[b]? = some (.cells cs.toArray t fz)

theorem SatIn.blk {Fr : Nat → Prop} {L : List HP} {w : World} (h : SatIn Fr L w) (i : Nat) {b t : Nat} {cs : List Value} (hL : L[i]? = some (pt b cs t)) : Blk Fr w b cs := by
  obtain ⟨F, hs, hf⟩ := h
  obtain ⟨ids, ⟨rfl, h1⟩, h2⟩ := hs.get hL
  exact ⟨hf b (h2 b (by simp)), t, (0, 0), h1⟩
theorem Blk.keep {X : Cx} {b : Nat} {cs : List Value} (h : Blk X.Fr X.w0 b cs) {Fr' : Nat → Prop} {w : World} {L : List HP} (hF : ∀ b, X.Fr b → Fr' b) (hw : St X L w) : Blk Fr' w b cs := by
  obtain ⟨t, fz, ht⟩ := h.at_
  exact ⟨hF b h.fr, t, fz, (hw.keep.block b h.fr).trans ht⟩
theorem RdL.blk {X : Cx} {L : List HP} {ti : TI} {b off : Nat} {cs : List Value} {v : Value} (h : Blk X.Fr X.w0 b cs) (hv : cs[off]? = some v) (ha : ti.und.agg = false := by rfl) : RdL X L ti b off v := by
  obtain ⟨t, fz, ht⟩ := h.at_
  exact RdL.ro1 h.fr ht hv ha
theorem RdL.blkA {X : Cx} {L : List HP} {ti : TI} {b off : Nat} {cs ds : List Value} (h : Blk X.Fr X.w0 b cs) (hd : (cs.drop off).take ti.size = ds) (hl : ds.length = ti.size := by rfl) (ha : ti.und.agg = true := by rfl) : RdL X L ti b off (.agg ds.toArray) := by
  obtain ⟨t, fz, ht⟩ := h.at_
  exact RdL.roN h.fr ht hd hl ha
theorem RdRow.pt {X : Cx} {L : List HP} {b off m c esz t : Nat} {cs news : List Value} (i : Nat) (hL : L[i]? = some (pt b cs t)) (hn : (cs.drop off).take (m * esz) = news) (hl : news.length = m * esz) : RdRow X L (.slice (some ⟨b, off, none⟩) m c) esz m news :=
  ⟨hl, .inr ⟨b, off, c, rfl, fun _ hw => rangeAt_blk (hw.atPt hL).1 hn⟩⟩
theorem RdRow.blk {X : Cx} {L : List HP} {b off m c esz : Nat} {cs news : List Value} (h : Blk X.Fr X.w0 b cs) (hn : (cs.drop off).take (m * esz) = news) (hl : news.length = m * esz) : RdRow X L (.slice (some ⟨b, off, none⟩) m c) esz m news := by
  obtain ⟨t, fz, ht⟩ := h.at_
  exact ⟨hl, .inr ⟨b, off, c, rfl, fun _ hw => rangeAt_blk ((hw.keep.block b h.fr).trans ht) hn⟩⟩
theorem RdRow.nil {X : Cx} {L : List HP} {a : Option Addr} {c esz : Nat} : RdRow X L (.slice a 0 c) esz 0 [] := ⟨by simp, .inl ⟨a, c, rfl, rfl⟩⟩

/-! ### Pieces opened and shut -/
theorem VO.exs {X : Cx} {ops : Array Oper} {G : GS} {l : List Oper} {e : Env} {L : List HP} {K : Env → List HP → Prop} {ι : Type} (φ : ι → Prop) (M : ι → List HP) (h : ∀ w, St X L w → ∃ x, φ x ∧ St X (M x) w)
    (hk : ∀ x, φ x → VO X ops G l e (M x) K) : VO X ops G l e L K := fun Q' hQ a w ha hG hw => by
  obtain ⟨x, h1, h2⟩ := h w hw
  exact hk x h1 Q' hQ a w ha hG h2
theorem VC.exs {X : Cx} {c : Code} {e : Env} {L : List HP} {Q : Exit → Env → List HP → Prop} {ι : Type} (φ : ι → Prop) (M : ι → List HP) (h : ∀ w, St X L w → ∃ x, φ x ∧ St X (M x) w)
    (hk : ∀ x, φ x → VC X c e (M x) Q) : VC X c e L Q := fun a w ha hw => by
  obtain ⟨x, h1, h2⟩ := h w hw
  exact hk x h1 a w ha h2
theorem VA.exs {X : Cx} {ops : Array Oper} {G : GS} {pl : Plan} {S : Pend} {e : Env} {L : List HP} {K : Env → List HP → Prop} {ι : Type} (φ : ι → Prop) (M : ι → List HP) (h : ∀ w, St X L w → ∃ x, φ x ∧ St X (M x) w)
    (hk : ∀ x, φ x → VA X ops G pl S e (M x) K) : VA X ops G pl S e L K := fun Q' hp0 hQ hsel listed a w hp ha hG hw hall => by
  obtain ⟨x, h1, h2⟩ := h w hw
  exact hk x h1 Q' hp0 hQ hsel listed a w hp ha hG h2 hall

/-- These pieces are those, or fewer. -/
def Imp (L M : List HP) : Prop := ∀ w F, Sats L F w → F.Nodup → ∃ F', Sats M F' w ∧ F'.Nodup ∧ ∀ b ∈ F', b ∈ F
theorem Imp.ent {X : Cx} {L M : List HP} (h : Imp L M) : Ent X L M := fun w hw => by
  obtain ⟨F, hs, hn, hb⟩ := hw.sat
  obtain ⟨F', h1, h2, h3⟩ := h w F hs hn
  exact ⟨⟨F', h1, h2, fun b hb' => hb b (h3 b hb')⟩, hw.keep, hw.low⟩
theorem Imp.refl {L : List HP} : Imp L L := fun _ F hs hn => ⟨F, hs, hn, fun _ h => h⟩
theorem Imp.trans {L M N : List HP} (h : Imp L M) (k : Imp M N) : Imp L N := fun w F hs hn => by
  obtain ⟨F', h1, h2, h3⟩ := h w F hs hn
  obtain ⟨F'', k1, k2, k3⟩ := k w F' h1 h2
  exact ⟨F'', k1, k2, fun b hb => h3 b (k3 b hb)⟩
theorem Imp.perm {L M : List HP} (h : L.Perm M) : Imp L M := fun w F hs hn => by
  obtain ⟨G, hG, hs'⟩ := hs.perm h
  exact ⟨G, hs', hG.nodup_iff.1 hn, fun b hb => hG.mem_iff.2 hb⟩
theorem Imp.nil {L : List HP} : Imp L [] := fun _ _ _ _ => ⟨[], rfl, .nil, fun _ h => by cases h⟩
theorem Imp.app {L L' M M' : List HP} (h : Imp L M) (k : Imp L' M') : Imp (L ++ L') (M ++ M') := fun w F hs hn => by
  obtain ⟨G, K, rfl, hG, hK⟩ := Sats.append.1 hs
  obtain ⟨n1, n2, nd⟩ := List.nodup_append.1 hn
  obtain ⟨G', g1, g2, g3⟩ := h w G hG n1
  obtain ⟨K', k1, k2, k3⟩ := k w K hK n2
  refine ⟨G' ++ K', Sats.append.2 ⟨G', K', rfl, g1, k1⟩, List.nodup_append.2 ⟨g2, k2, fun x hx y hy => nd x (g3 x hx) y (k3 y hy)⟩, fun b hb => ?_⟩
  rcases List.mem_append.1 hb with hb | hb
  · exact List.mem_append.2 (.inl (g3 b hb))
  · exact List.mem_append.2 (.inr (k3 b hb))
theorem Imp.cons {H : HP} {L M : List HP} (h : Imp L M) : Imp (H :: L) (H :: M) := Imp.app (L := [H]) (M := [H]) Imp.refl h
theorem Imp.pick {L M : List HP} {H : HP} (i : Nat) (hL : L[i]? = some H) (h : Imp (L.eraseIdx i) M) : Imp L (H :: M) := (Imp.perm (perm_eraseIdx hL)).trans h.cons
theorem Imp.sep {L Ls M : List HP} (h : Imp L (Ls ++ M)) : Imp L (hsep Ls :: M) := fun w F hs hn => by
  obtain ⟨F', h1, h2, h3⟩ := h w F hs hn
  obtain ⟨G, K, rfl, hG, hK⟩ := Sats.append.1 h1
  exact ⟨G ++ K, ⟨G, K, rfl, hG, hK⟩, h2, h3⟩
theorem Imp.unsep {L Ls M : List HP} (h : Imp (Ls ++ L) M) : Imp (hsep Ls :: L) M := fun w F hs hn => by
  obtain ⟨G, K, rfl, hG, hK⟩ := hs
  exact h w _ (Sats.append.2 ⟨G, K, rfl, hG, hK⟩) hn
theorem Imp.ex {α : Type} {f : α → HP} {L M : List HP} (x : α) (h : Imp L (f x :: M)) : Imp L (hex f :: M) := fun w F hs hn => by
  obtain ⟨F', ⟨G, K, rfl, hG, hK⟩, h2, h3⟩ := h w F hs hn
  exact ⟨G ++ K, ⟨G, K, rfl, ⟨x, hG⟩, hK⟩, h2, h3⟩
theorem Imp.pure {φ : Prop} {L M : List HP} (hφ : φ) (h : Imp L M) : Imp L (hpure φ :: M) := fun w F hs hn => by
  obtain ⟨F', h1, h2, h3⟩ := h w F hs hn
  exact ⟨F', ⟨[], F', rfl, ⟨rfl, hφ⟩, h1⟩, h2, h3⟩
/-- A block is the slice that lies at its head. -/
theorem Imp.sl {L M : List HP} {el esz b n cap : Nat} {cs rest : List Value} (hc : cs.length = n * esz) (hn : n ≤ cap) (hr : (cs ++ rest).length = cap * esz) (h : Imp L (pt b (cs ++ rest) el :: M)) : Imp L (slH el esz (some ⟨b, 0, none⟩) n cap cs :: M) := fun w F hs hn' => by
  obtain ⟨F', ⟨G, K, rfl, ⟨rfl, hG⟩, hK⟩, h2, h3⟩ := h w F hs hn'
  exact ⟨[b] ++ K, ⟨[b], K, rfl, ⟨hc, .inr ⟨b, rest, rfl, rfl, hn, hr, hG⟩⟩, hK⟩, h2, h3⟩
theorem Imp.slNil {L M : List HP} {el esz : Nat} (h : Imp L M) : Imp L (slH el esz none 0 0 [] :: M) := fun w F hs hn => by
  obtain ⟨F', h1, h2, h3⟩ := h w F hs hn
  exact ⟨F', ⟨[], F', rfl, ⟨by simp, .inl ⟨rfl, rfl, rfl, rfl⟩⟩, h1⟩, h2, h3⟩

/-- What a piece is made of. -/
def HOpn {ι : Type} (H : HP) (φ : ι → Prop) (Ls : ι → List HP) : Prop := ∀ w ids, H.sat ids w → ids.Nodup → ∃ x, φ x ∧ ∃ ids', Sats (Ls x) ids' w ∧ ids'.Nodup ∧ ∀ b ∈ ids', b ∈ ids

theorem HOpn.st {X : Cx} {L : List HP} {ι : Type} {H : HP} {φ : ι → Prop} {Ls : ι → List HP} (i : Nat) (hL : L[i]? = some H) (h : HOpn H φ Ls) (w : World) (hw : St X L w) : ∃ x, φ x ∧ St X (Ls x ++ L.eraseIdx i) w := by
  obtain ⟨F, ⟨ids, K, rfl, hid, hK⟩, hn, hb⟩ := hw.sat.perm (perm_eraseIdx hL)
  obtain ⟨n1, n2, nd⟩ := List.nodup_append.1 hn
  obtain ⟨x, hx, ids', h1, h2, h3⟩ := h w ids hid n1
  refine ⟨x, hx, ⟨⟨ids' ++ K, Sats.append.2 ⟨ids', K, rfl, h1, hK⟩, List.nodup_append.2 ⟨h2, n2, fun x hx y hy => nd x (h3 x hx) y hy⟩, fun b hb' => ?_⟩, hw.keep, hw.low⟩⟩
  rcases List.mem_append.1 hb' with hb' | hb'
  · exact hb b (List.mem_append.2 (.inl (h3 b hb')))
  · exact hb b (List.mem_append.2 (.inr hb'))

theorem VO.opn {X : Cx} {ops : Array Oper} {G : GS} {l : List Oper} {e : Env} {L : List HP} {K : Env → List HP → Prop} {ι : Type} {H : HP} {φ : ι → Prop} {Ls : ι → List HP} (i : Nat) (hL : L[i]? = some H) (h : HOpn H φ Ls)
    (hk : ∀ x, φ x → VO X ops G l e (Ls x ++ L.eraseIdx i) K) : VO X ops G l e L K := VO.exs φ _ (h.st i hL) hk
theorem VC.opn {X : Cx} {c : Code} {e : Env} {L : List HP} {Q : Exit → Env → List HP → Prop} {ι : Type} {H : HP} {φ : ι → Prop} {Ls : ι → List HP} (i : Nat) (hL : L[i]? = some H) (h : HOpn H φ Ls)
    (hk : ∀ x, φ x → VC X c e (Ls x ++ L.eraseIdx i) Q) : VC X c e L Q := VC.exs φ _ (h.st i hL) hk
theorem VA.opn {X : Cx} {ops : Array Oper} {G : GS} {pl : Plan} {S : Pend} {e : Env} {L : List HP} {K : Env → List HP → Prop} {ι : Type} {H : HP} {φ : ι → Prop} {Ls : ι → List HP} (i : Nat) (hL : L[i]? = some H) (h : HOpn H φ Ls)
    (hk : ∀ x, φ x → VA X ops G pl S e (Ls x ++ L.eraseIdx i) K) : VA X ops G pl S e L K := VA.exs φ _ (h.st i hL) hk

theorem HOpn.sep (Ls : List HP) : HOpn (ι := Unit) (hsep Ls) (fun _ => True) (fun _ => Ls) := fun _ ids h hn => ⟨(), trivial, ids, h, hn, fun _ h => h⟩
theorem HOpn.ex {α : Type} (f : α → HP) : HOpn (hex f) (fun _ => True) (fun x => [f x]) := fun _ ids ⟨x, h⟩ hn => ⟨x, trivial, ids, ⟨ids, [], by simp, h, rfl⟩, hn, fun _ h => h⟩
theorem HOpn.pure (φ : Prop) : HOpn (ι := Unit) (hpure φ) (fun _ => φ) (fun _ => []) := fun _ ids ⟨h1, h2⟩ hn => ⟨(), h2, [], rfl, .nil, fun _ h => by cases h⟩
/-- A slice is nil, or the head of a block. -/
theorem HOpn.sl (el esz : Nat) (a : Option Addr) (n cap : Nat) (cs : List Value) : HOpn (ι := Option (Nat × List Value)) (slH el esz a n cap cs)
    (fun x => cs.length = n * esz ∧ n ≤ cap ∧ match x with | none => a = none ∧ n = 0 ∧ cap = 0 ∧ cs = [] | some (b, rest) => a = some ⟨b, 0, none⟩ ∧ (cs ++ rest).length = cap * esz)
    (fun x => match x with | none => [] | some (b, rest) => [pt b (cs ++ rest) el]) := by
  rintro w ids ⟨hc, ⟨rfl, rfl, rfl, rfl⟩ | ⟨b, rest, rfl, rfl, hn, hr, hh⟩⟩ hnd
  · exact ⟨none, ⟨hc, Nat.le_refl _, rfl, rfl, rfl, List.eq_nil_of_length_eq_zero (by simpa using hc)⟩, [], rfl, .nil, fun _ h => by cases h⟩
  · exact ⟨some (b, rest), ⟨hc, hn, rfl, hr⟩, [b], ⟨[b], [], rfl, ⟨rfl, hh⟩, rfl⟩, by simp, fun _ h => h⟩

/-! ### More operations -/
section
variable {X : Cx} {ops : Array Oper} {G : GS} {l : List Oper} {e : Env} {L : List HP} {K : Env → List HP → Prop}
  {dst : Option Tmp} {ty : TypeId} {pos : String} {after : Array Edge} {guard : Option (Nat × Bool)}

/-- A call that is given the first pieces. -/
theorem VO.call {f : FuncId} {args : Array Operand} {tys : Array TypeId} {vals : List Value} {R : Value → List HP → Prop} {Lc Lr : List HP}
    (ht : ∀ Fr' w, (∀ b, X.Fr b → Fr' b) → St X L w → SatIn Fr' Lr w → Tri X.P f vals Fr' w Lc R) (hargs : evs e args.toList = some vals) (hL : L = Lc ++ Lr)
    (hk : ∀ v L1, R v L1 → VO X ops G l (putE dst v e) (L1 ++ Lr) K)
    (hg : gOn ops G guard = some true := by rfl) (hd : dstOk X.n dst = true := by rfl) (hf : gFree G dst = true := by rfl) :
    VO X ops G (⟨dst, .call ⟨.value (.func f), args, tys⟩, ty, pos, after, guard⟩ :: l) e L K :=
  VO.op hg hd hf (OpT.call hargs (hL ▸ .refl _) ht) fun v L' ⟨L1, h1, h2⟩ => by subst h2; exact hk v L1 h1

/-- A call that only looks at pieces and computes a value. -/
theorem VO.callR {f : FuncId} {args : Array Operand} {tys : Array TypeId} {vals : List Value} {u : Value}
    (ht : ∀ Fr' w, (∀ b, X.Fr b → Fr' b) → St X L w → SatIn Fr' L w → Tri X.P f vals Fr' w [] (fun v L => v = u ∧ L = [])) (hargs : evs e args.toList = some vals)
    (hk : VO X ops G l (putE dst u e) L K)
    (hg : gOn ops G guard = some true := by rfl) (hd : dstOk X.n dst = true := by rfl) (hf : gFree G dst = true := by rfl) :
    VO X ops G (⟨dst, .call ⟨.value (.func f), args, tys⟩, ty, pos, after, guard⟩ :: l) e L K :=
  VO.call ht hargs rfl (fun v L1 ⟨h1, h2⟩ => by subst h1; subst h2; exact hk) hg hd hf

theorem VO.append {t el esz n cap m : Nat} {tt te : TI} {x y : Operand} {a : Option Addr} {cs news : List Value} {v : Value} (i : Nat)
    (hx : ev e x = some (.slice a n cap)) (hy : ev e y = some v) (hL : L[i]? = some (slH el esz a n cap cs)) (hT : tyLook X.tab t = some tt) (hu : tt.und = .slice el) (hE : tyLook X.tab el = some te) (hesz : te.size = esz)
    (hr : RdRow X L v esz m news) (h1 : news.all Value.oneCell' = true) (hb : (n + m) * te.bytes ≤ 140737488355328) (h63 : n + m ≤ 9223372036854775807)
    (hk : ∀ a' cap', n + m ≤ cap' → VO X ops G l (putE dst (.slice a' (n + m) cap') e) (slH el esz a' (n + m) cap' (cs ++ news) :: L.eraseIdx i) K)
    (hg : gOn ops G guard = some true := by rfl) (hd : dstOk X.n dst = true := by rfl) (hf : gFree G dst = true := by rfl) :
    VO X ops G (⟨dst, .call ⟨.builtin .append, #[x, y], #[t, t]⟩, ty, pos, after, guard⟩ :: l) e L K :=
  VO.op hg hd hf (OpT.append i hx hy hL hT hu hE hesz hr h1 hb h63) fun u L' ⟨a', cap', h1, h2, h3⟩ => by subst h1; subst h3; exact hk a' cap' h2

theorem OpT.buildSlice {T : TypeId} {n : Nat} {parts : Array (Nat × Operand)} {tt te : TI} {el : Nat} {pv : List (Nat × Value)} {cells : List Value} (hT : tyLook X.tab T = some tt) (hu : tt.und = .slice el) (hE : tyLook X.tab el = some te)
    (hp : evP e parts.toList = some pv) (hn : n * te.size ≤ 16777216) (hfill : fillL (fun i => some (i * te.size, te.size)) (List.replicate n te.zs).flatten pv = some cells) :
    OpT X (.buildSlice T n parts) e L (fun u L' => ∃ b, u = .slice (some ⟨b, 0, none⟩) n n ∧ L' = pt b cells el :: L) := fun a w ha hw dst ty pos after guard => by
  have hund := und_slice (X.ok.look hT) hu
  have hok := X.ok.look hE
  obtain ⟨i, hi, hsz, _, _⟩ := hok.info'
  have hparts : (parts.map fun x => match x with | (i, x) => (i, a.eval x)) = pv.toArray := by
    apply Array.toList_inj.1
    simpa using ha.evP hp
  have hzero : ((Array.range (n * te.size)).map (te.zs.toArray[· % te.zs.toArray.size]!)) = ((List.replicate n te.zs).flatten).toArray := flat_zero n te.zs te.size hok.len
  have hff := fill_fillL hfill
  refine .inl ⟨.slice (some ⟨w.heap.size, 0, none⟩) n n, w.alloc (.cells cells.toArray el), _, ?_, ⟨w.heap.size, rfl, rfl⟩, hw.alloc cells el⟩
  have hlim : ¬ (n * te.size > 2 ^ 24) := by simpa using hn
  have hb : (Instr.buildSlice T n pv.toArray).run X.P w = .ok (.slice (some ⟨w.heap.size, 0, none⟩) n n) (w.alloc (.cells cells.toArray el)) := by
    unfold Instr.buildSlice
    by_cases h0 : n * te.size = 0
    · have hz0 : (List.replicate n te.zs).flatten = [] := by
        apply List.eq_nil_of_length_eq_zero
        simp [hok.len, h0]
      rw [hz0] at hff
      have e0 : ∀ f : Nat → Value, (Array.range 0).map f = #[] := fun f => by simp
      have h2 : ¬ (0 > 2 ^ 24) := by decide
      simp only [Sem.run_bind, run_underlying hund, Result.andThen_ok, run_size hi, hsz, h2, if_false, h0, if_true, Sem.run_pure, e0]
      simp [hff, newRow, newObj, Sem.run]
    · simp only [Sem.run_bind, run_underlying hund, Result.andThen_ok, run_size hi, hsz, hlim, if_false, h0, Sem.run_pure, run_zero hok, hok.zero, hzero]
      simp [hff, newRow, newObj, Sem.run]
  simp only [execOp]
  rw [Sem.run_bind, hparts, hb]; rfl

theorem VO.buildSlice {T : TypeId} {n : Nat} {parts : Array (Nat × Operand)} {tt te : TI} {el : Nat} {pv : List (Nat × Value)} (cells : List Value) (hT : tyLook X.tab T = some tt) (hu : tt.und = .slice el) (hE : tyLook X.tab el = some te)
    (hp : evP e parts.toList = some pv) (hn : n * te.size ≤ 16777216) (hfill : fillL (fun i => some (i * te.size, te.size)) (List.replicate n te.zs).flatten pv = some cells)
    (hk : ∀ b, VO X ops G l (putE dst (.slice (some ⟨b, 0, none⟩) n n) e) (pt b cells el :: L) K)
    (hg : gOn ops G guard = some true := by rfl) (hd : dstOk X.n dst = true := by rfl) (hf : gFree G dst = true := by rfl) :
    VO X ops G (⟨dst, .buildSlice T n parts, ty, pos, after, guard⟩ :: l) e L K :=
  VO.op hg hd hf (OpT.buildSlice hT hu hE hp hn hfill) fun u L' ⟨b, h1, h2⟩ => by subst h1; subst h2; exact hk b

/-- One element: the block holds its cells. -/
theorem fill_one {v : Value} {vs zs : List Value} {s : Nat} (hv : v.cells = vs.toArray) (hs : vs.length = s) (hz : zs.length = s) : fillL (fun i => some (i * s, s)) (List.replicate 1 zs).flatten [(0, v)] = some vs := by
  have h1 : v.cells.toList = vs := by rw [hv]
  have h2 : (List.replicate 1 zs).flatten = zs := by show zs ++ [] = zs; simp
  have h3 : wrC zs 0 vs = vs := by
    unfold wrC
    rw [List.drop_of_length_le (by omega)]; simp
  have h4 : Nat.beq vs.length s = true := by rw [hs]; exact Nat.beq_refl s
  have h5 : Nat.ble s zs.length = true := by rw [hz]; exact Nat.ble_eq.mpr (Nat.le_refl s)
  simp only [fillL, h1, h2, Nat.zero_mul, Nat.zero_add, h3, h4, h5, Bool.and_self, cond_true]

/-- make([]T, n, n) -/
theorem OpT.makeSlice {T : TypeId} {x y : Operand} {tt te : TI} {el : Nat} {k k' : IntKind} (n : Nat) (hx : ev e x = some (.int k n)) (hy : ev e y = some (.int k' n)) (hT : tyLook X.tab T = some tt) (hu : tt.und = .slice el) (hE : tyLook X.tab el = some te)
    (hn : n ≤ 9223372036854775807) (hb : te.bytes * n ≤ 281474976710656) :
    OpT X (.makeSlice T x y) e L (fun u L' => ∃ b, u = .slice (some ⟨b, 0, none⟩) n n ∧ L' = pt b (List.replicate n te.zs).flatten el :: L) := fun a w ha hw dst ty pos after guard => by
  have hund := und_slice (X.ok.look hT) hu
  have hok := X.ok.look hE
  obtain ⟨i, hi, hsz, hby, hz⟩ := hok.info'
  have hzero := flat_zero n te.zs te.size hok.len
  refine .inl ⟨.slice (some ⟨w.heap.size, 0, none⟩) n n, w.alloc (.cells (List.replicate n te.zs).flatten.toArray el), _, ?_, ⟨w.heap.size, rfl, rfl⟩, hw.alloc _ el⟩
  have hrun := run_make (P := X.P) w T el i te.zero hund hi hz k k' n n (by omega) (by omega) (by
    have h1 : ((te.bytes * n : Nat) : Int) ≤ ((281474976710656 : Nat) : Int) := Int.ofNat_le.2 hb
    rw [Int.natCast_mul] at h1
    rw [hby]; exact h1) (by omega)
  have hmc : madeCells te.zero.cells ((n : Int).toNat * i.size) = (List.replicate n te.zs).flatten.toArray := by
    rw [← hzero, hok.zero, hsz]; rfl
  rw [hmc] at hrun
  simp only [execOp, ha.ev hx, ha.ev hy]
  rw [Sem.run_bind, hrun]; rfl

theorem VO.makeSlice {T : TypeId} {x y : Operand} {tt te : TI} {el : Nat} {k k' : IntKind} {i j : Int} (n : Nat) (hx : ev e x = some (.int k i)) (hy : ev e y = some (.int k' j)) (hT : tyLook X.tab T = some tt) (hu : tt.und = .slice el) (hE : tyLook X.tab el = some te)
    (hi : i = n) (hj : j = n) (hn : n ≤ 9223372036854775807) (hb : te.bytes * n ≤ 281474976710656)
    (hk : ∀ b, VO X ops G l (putE dst (.slice (some ⟨b, 0, none⟩) n n) e) (pt b (List.replicate n te.zs).flatten el :: L) K)
    (hg : gOn ops G guard = some true := by rfl) (hd : dstOk X.n dst = true := by rfl) (hf : gFree G dst = true := by rfl) :
    VO X ops G (⟨dst, .makeSlice T x y, ty, pos, after, guard⟩ :: l) e L K := by
  subst hi; subst hj
  exact VO.op hg hd hf (OpT.makeSlice n hx hy hT hu hE hn hb) fun u L' ⟨b, h1, h2⟩ => by subst h1; subst h2; exact hk b
end
end Go.Proofs.YtbbnmgakmcppdaaGreat.Vg
