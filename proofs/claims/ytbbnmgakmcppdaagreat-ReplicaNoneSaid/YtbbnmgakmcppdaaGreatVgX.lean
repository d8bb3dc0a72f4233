/- The engine, part X: structs held against one another; slices cut at their end. No program is named; nothing is assumed. -/
import Derived.Test.YtbbnmgakmcppdaaGreatVgU
import Derived.Test.YtbbnmgakmcppdaaGreatVgG
namespace Go.Proofs.YtbbnmgakmcppdaaGreat.Vg
open Go Go.MapKept
set_option linter.unusedVariables false
set_option linter.unusedSimpArgs false

/-! ### Structs, field by field -/
/-- How two values of a type compare, at any depth from d0 on. -/
def EqT (P : Program) (t : TypeId) (d0 : Nat) (u v : Value) (r : Bool) : Prop := ∀ d, d0 ≤ d → ∀ w : World, (Op.equalIn (d + 1) t u v).run P w = .ok r w
theorem EqT.int {P : Program} {t : TypeId} {k j : IntKind} (ht : P.underlying t = some (.int k)) (a b : Int) : EqT P t 0 (.int j a) (.int j b) (decide (a = b)) := fun d _ w => by
  rw [Op.equalIn, Sem.run_bind, run_underlying ht]
  simp; rfl
theorem EqT.str {P : Program} {t : TypeId} (ht : P.underlying t = some .string) (a b : ByteArray) : EqT P t 0 (.string a) (.string b) (decide (a = b)) := fun d _ w => by
  rw [Op.equalIn, Sem.run_bind, run_underlying ht]
  have : (a == b) = decide (a = b) := by
    by_cases h : a = b
    · subst h; rw [(bytes_beq a a).2 rfl]; simp
    · rw [decide_eq_false h]
      cases hb : a == b
      · rfl
      · exact absurd ((bytes_beq a b).1 hb) h
  simp [this]
theorem EqT.bool {P : Program} {t : TypeId} (ht : P.underlying t = some .bool) (a b : Bool) : EqT P t 0 (.bool a) (.bool b) (decide (a = b)) := fun d _ w => by
  rw [Op.equalIn, Sem.run_bind, run_underlying ht]
  cases a <;> cases b <;> simp
/-- The fields that are left. -/
def EqFs (P : Program) (d0 : Nat) (xs ys : List Value) (fs : List Field) (r : Bool) : Prop := ∀ d, d0 ≤ d → ∀ w : World, (Op.eqFields (d + 1) xs.toArray ys.toArray fs).run P w = .ok r w
theorem EqFs.nil {P : Program} {xs ys : List Value} : EqFs P 0 xs ys [] true := fun d _ w => rfl
theorem EqFs.cons {P : Program} {d0 d1 : Nat} {xs ys : List Value} {f : Field} {fs : List Field} {r s : Bool} {u v : Value} (hn : f.name ≠ "_") (hx : ∀ w : World, (part f.type xs.toArray f.offset).run P w = .ok u w) (hy : ∀ w : World, (part f.type ys.toArray f.offset).run P w = .ok v w)
    (h : EqT P f.type d0 u v r) (hs : EqFs P d1 xs ys fs s) : EqFs P (max d0 d1) xs ys (f :: fs) (r && s) := fun d hd w => by
  unfold Op.eqFields
  rw [if_pos hn]
  simp only [Sem.run_bind, hx, hy, Result.andThen_ok, h d (by omega) w]
  cases r
  · simp
  · simpa using hs d (by omega) w
theorem part1 {P : Program} {t : TypeId} {cs : List Value} {off : Nat} {v : Value} {ti : TI} (ht : TIok P t ti) (ha : ti.und.agg = false) (hv : cs[off]? = some v) (w : World) : (part t cs.toArray off).run P w = .ok v w := by
  unfold part
  rw [Sem.run_bind, ht.aggR, ha]
  have : cs.toArray[off]? = some v := by simpa using hv
  simp [this]
theorem partA {P : Program} {t : TypeId} {cs ds : List Value} {off : Nat} {ti : TI} (ht : TIok P t ti) (ha : ti.und.agg = true) (hv : (cs.drop off).take ti.size = ds) (w : World) : (part t cs.toArray off).run P w = .ok (.agg ds.toArray) w := by
  obtain ⟨i, hi, hs, _, _⟩ := ht.info'
  unfold part
  rw [Sem.run_bind, ht.aggR, ha]
  simp [run_size hi, hs]
  exact hv
theorem EqT.st {P : Program} {t : TypeId} {d0 : Nat} {xs ys : List Value} {r : Bool} {fs : Array Field} (ht : P.underlying t = some (.struct fs)) (hp : P.stoodInHeld t = false) (h : EqFs P d0 xs ys fs.toList r) : EqT P t (d0 + 1) (.agg xs.toArray) (.agg ys.toArray) r := fun d hd w => by
  have hf : P.fieldsOf t = fs := by unfold Program.fieldsOf; rw [ht]
  rw [run_equalIn_struct w d t _ _ (by rw [hf]; exact ht) hp, hf]
  obtain ⟨k, rfl⟩ : ∃ k, d = k + 1 := ⟨d - 1, by omega⟩
  exact h k (by omega) w
theorem EqT.eq {P : Program} {t : TypeId} {d0 : Nat} {u v : Value} {r s : Bool} (h : EqT P t d0 u v r) (e : r = s) : EqT P t d0 u v s := e ▸ h
theorem EqT.run {P : Program} {t : TypeId} {d0 : Nat} {u v : Value} {r : Bool} (h : EqT P t d0 u v r) (hd : d0 ≤ 9999) (w : World) : (Op.equal t u v).run P w = .ok r w := by
  unfold Op.equal
  exact h 9999 hd w

/-! ### Keys that are structs of two fields, an integer and a text -/
def isV (k : Int × ByteArray) : Value := .agg ([.int .i64 k.1, .string k.2] : List Value).toArray
theorem KeyOk.is {P : Program} {t ti ts : TypeId} {f g : Field} {Ti Ts : TI} (ht : P.underlying t = some (.struct #[f, g])) (hp : P.stoodInHeld t = false) (hf : f.name ≠ "_") (hg : g.name ≠ "_") (hf2 : f.type = ti) (hg2 : g.type = ts) (hfo : f.offset = 0) (hgo : g.offset = 1)
    (hi : P.underlying ti = some (.int .i64)) (hs : P.underlying ts = some .string) (hTi : TIok P ti Ti) (hTs : TIok P ts Ts) (ha : Ti.und.agg = false) (hb : Ts.und.agg = false) : KeyOk P t isV where
  inj := fun a b h => by
    obtain ⟨a1, a2⟩ := a; obtain ⟨b1, b2⟩ := b
    simp [isV] at h
    rw [h.1, h.2]
  check := fun e a w => by
    have h1 : (part ti ([.int .i64 a.1, .string a.2] : List Value).toArray 0).run P w = .ok (.int .i64 a.1) w := part1 hTi ha rfl w
    have h2 : (part ts ([.int .i64 a.1, .string a.2] : List Value).toArray 1).run P w = .ok (.string a.2) w := part1 hTs hb rfl w
    have c1 : (Instr.checkKey e (9998 + 1) ti (.int .i64 a.1)).run P w = .ok () w := run_checkKey hi (by rfl) e 9998
    have c2 : (Instr.checkKey e (9998 + 1) ts (.string a.2)).run P w = .ok () w := run_checkKey hs (by trivial) e 9998
    show (Instr.checkKey e (9999 + 1) t (isV a)).run P w = _
    unfold Instr.checkKey
    rw [Sem.run_bind, run_underlying ht]
    simp only [Result.andThen_ok, isV]
    rw [← Array.forIn_toList]
    simp [hf, hg, hf2, hg2, hfo, hgo, h1, h2, Sem.run_bind, Result.andThen]
    rw [show (9999 : Nat) = 9998 + 1 from rfl, c1]
    simp [Result.andThen, h2, c2]
  find := fun {α} d a xs es hes w => by
    unfold Instr.findKey
    rw [Sem.run_bind, run_underlying ht]
    simp only [Result.andThen_ok]
    have hnow : ∀ (l : List MapEntry) (ys : List ((Int × ByteArray) × α)) (i : Nat), l.map (fun e => (e.key, e.val)) = ys.map (fun x => (isV x.1, d x.2)) → (l ≠ [] → Instr.findNow (.struct #[f, g]) (isV a) l i = none) := by
      intro l ys i hl hne
      cases l with
      | nil => exact absurd rfl hne
      | cons e r => rfl
    have heq : ∀ (a b : Int × ByteArray) (w : World), (Op.equal t (isV a) (isV b)).run P w = .ok (decide (a = b)) w := fun a b w => by
      have hx1 : ∀ w : World, (part f.type ([.int .i64 a.1, .string a.2] : List Value).toArray f.offset).run P w = .ok (.int .i64 a.1) w := fun w => by rw [hf2, hfo]; exact part1 hTi ha rfl w
      have hx2 : ∀ w : World, (part g.type ([.int .i64 a.1, .string a.2] : List Value).toArray g.offset).run P w = .ok (.string a.2) w := fun w => by rw [hg2, hgo]; exact part1 hTs hb rfl w
      have hy1 : ∀ w : World, (part f.type ([.int .i64 b.1, .string b.2] : List Value).toArray f.offset).run P w = .ok (.int .i64 b.1) w := fun w => by rw [hf2, hfo]; exact part1 hTi ha rfl w
      have hy2 : ∀ w : World, (part g.type ([.int .i64 b.1, .string b.2] : List Value).toArray g.offset).run P w = .ok (.string b.2) w := fun w => by rw [hg2, hgo]; exact part1 hTs hb rfl w
      refine EqT.run (EqT.eq (EqT.st ht hp (EqFs.cons hf hx1 hy1 (hf2 ▸ EqT.int hi a.1 b.1) (EqFs.cons hg hx2 hy2 (hg2 ▸ EqT.str hs a.2 b.2) EqFs.nil))) ?_) (by decide) w
      obtain ⟨a1, a2⟩ := a; obtain ⟨b1, b2⟩ := b
      by_cases h1 : a1 = b1 <;> by_cases h2 : a2 = b2 <;> simp [h1, h2]
    cases es with
    | nil =>
      cases xs with
      | nil => rfl
      | cons _ _ => cases hes
    | cons e r =>
      rw [hnow (e :: r) xs 0 hes (by simp)]
      exact findAsking_of heq d a xs (e :: r) 0 hes w
  bits := fun a => by simp [isV, Instr.sameBits, bytes_beq]

/-- Ways meet, where the next part is already told. -/
theorem VC.meetS {X : Cx} {σ : Type} (E : σ → Env) (H : σ → List HP) (I : σ → Prop) {b c : Code} {e : Env} {L : List HP} {Q : Exit → Env → List HP → Prop}
    (hb : VC X b e L (meetQ X E H I Q)) (hc : ∀ s, I s → VC X c (E s) (H s) Q) : VC X b e L (seqQ X c Q) :=
  hb.mono fun x e' L' h => by
    cases x with
    | normal =>
      obtain ⟨s, hI, hE, hH⟩ := h
      exact ((hc s hI).ent hH).sub hE
    | exit id => exact h
    | goto l => exact h
    | ret => exact h
    | panic ch => exact h
    | outgrown => exact h

/-! ### Slices cut at their end -/
theorem Imp.slCut {L M : List HP} {el esz n cap : Nat} {a : Option Addr} {cs : List Value} (m : Nat) (hm : m ≤ n) (h : Imp L (slH el esz a n cap cs :: M)) : Imp L (slH el esz a m cap (cs.take (m * esz)) :: M) := fun w F hs hn => by
  obtain ⟨F', ⟨ids, K, rfl, ⟨hc, hcase⟩, hK⟩, h2, h3⟩ := h w F hs hn
  have hle : m * esz ≤ n * esz := Nat.mul_le_mul_right _ hm
  refine ⟨ids ++ K, ⟨ids, K, rfl, ⟨by rw [List.length_take, hc]; omega, ?_⟩, hK⟩, h2, h3⟩
  rcases hcase with ⟨rfl, rfl, rfl, rfl⟩ | ⟨b, rest, rfl, rfl, h4, h5, h6⟩
  · exact .inl ⟨rfl, by omega, rfl, rfl⟩
  · have e : cs.take (m * esz) ++ (cs.drop (m * esz) ++ rest) = cs ++ rest := by rw [← List.append_assoc, List.take_append_drop]
    exact .inr ⟨b, cs.drop (m * esz) ++ rest, rfl, rfl, by omega, by rw [e]; exact h5, by rw [e]; exact h6⟩
end Go.Proofs.YtbbnmgakmcppdaaGreat.Vg
