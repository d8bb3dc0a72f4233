/- The engine, part B: operations that only compute are run by a function; each other operation has a rule. No program is named; nothing is assumed. -/
import Derived.Test.YtbbnmgakmcppdaaGreatVgA
import Derived.WalkKit
namespace Go.Proofs.YtbbnmgakmcppdaaGreat.Vg
open Go

/-! ### The runner of what only computes -/
def lookK : Env → Nat → (Value → Prop) → Prop → Prop
  | [], _, _, kf => kf
  | (s, v) :: r, t, k, kf => bif Nat.beq s t then k v else lookK r t k kf
theorem lookK_spec {k : Value → Prop} {kf : Prop} : ∀ {e : Env} {t : Nat}, lookK e t k kf → (∃ v, look e t = some v ∧ k v) ∨ kf
  | [], _, h => .inr h
  | (s, v) :: r, t, h => by
    simp only [lookK] at h
    simp only [look]
    cases hb : Nat.beq s t
    · rw [hb] at h; exact lookK_spec h
    · rw [hb] at h; exact .inl ⟨v, rfl, h⟩

def evK (e : Env) (x : Operand) (k : Value → Prop) (kf : Prop) : Prop :=
  match x with
  | .tmp t => lookK e t k kf
  | .const v => k v
  | .global g => k (.pointer (some ⟨g, 0, none⟩))
  | .func f => k (.func (.func f) #[] #[])
theorem evK_spec {e : Env} {x : Operand} {k : Value → Prop} {kf : Prop} (h : evK e x k kf) : (∃ v, ev e x = some v ∧ k v) ∨ kf := by
  cases x with
  | tmp t => exact lookK_spec h
  | const v => exact .inl ⟨v, rfl, h⟩
  | global g => exact .inl ⟨_, rfl, h⟩
  | func f => exact .inl ⟨_, rfl, h⟩

def tyK : Tab → Nat → (TI → Prop) → Prop → Prop
  | [], _, _, kf => kf
  | (s, v) :: r, t, k, kf => bif Nat.beq s t then k v else tyK r t k kf
theorem tyK_spec {k : TI → Prop} {kf : Prop} : ∀ {e : Tab} {t : Nat}, tyK e t k kf → (∃ v, tyLook e t = some v ∧ k v) ∨ kf
  | [], _, h => .inr h
  | (s, v) :: r, t, h => by
    simp only [tyK] at h
    simp only [tyLook]
    cases hb : Nat.beq s t
    · rw [hb] at h; exact tyK_spec h
    · rw [hb] at h; exact .inl ⟨v, rfl, h⟩

def nthK {α : Type} : List α → Nat → (α → Prop) → Prop → Prop
  | [], _, _, kf => kf
  | x :: _, 0, k, _ => k x
  | _ :: r, n + 1, k, kf => nthK r n k kf
theorem nthK_spec {α : Type} {k : α → Prop} {kf : Prop} : ∀ {l : List α} {i : Nat}, nthK l i k kf → (∃ v, l[i]? = some v ∧ k v) ∨ kf
  | [], _, h => .inr h
  | x :: r, 0, h => .inl ⟨x, rfl, h⟩
  | x :: r, n + 1, h => by simpa using nthK_spec (l := r) (i := n) h

/-- Without the world: an operation yields this value. -/
def Light (X : Cx) (op : Op) (e : Env) (v : Value) : Prop :=
  ∀ a, Agr X.n a e → ∀ dst ty pos after guard w, (execOp a.eval ⟨dst, op, ty, pos, after, guard⟩).run X.P w = .ok (.value v) w

def cmpK (op : BinOp) (a b : Int) (k : Value → Prop) (kf : Prop) : Prop :=
  match op with
  | .eql => k (.bool (a == b))
  | .neq => k (.bool (a != b))
  | .lss => k (.bool (decide (a < b)))
  | .leq => k (.bool (decide (a ≤ b)))
  | .gtr => k (.bool (decide (b < a)))
  | .geq => k (.bool (decide (b ≤ a)))
  | _ => kf

def kindEq : IntKind → IntKind → Bool
  | .i64, .i64 => true
  | .u8, .u8 => true
  | .u16, .u16 => true
  | .u64, .u64 => true
  | .i32, .i32 => true
  | .u32, .u32 => true
  | .i8, .i8 => true
  | .i16, .i16 => true
  | _, _ => false
theorem kindEq_eq {a b : IntKind} (h : kindEq a b = true) : a = b := by cases a <;> cases b <;> first | rfl | cases h

def binK (tab : Tab) (op : BinOp) (ty : Nat) (x y : Value) (k : Value → Prop) (kf : Prop) : Prop :=
  match x, y with
  | .int j a, .int i b => bif kindEq j i then cmpK op a b k kf else kf
  | .bool a, .bool b => tyK tab ty (fun ti => match ti.und with
      | .bool => match op with
        | .eql => k (.bool (a == b))
        | .neq => k (.bool (!(a == b)))
        | _ => kf
      | _ => kf) kf
  | .string a, .string b => match op with
      | .eql => k (.bool (a.toList == b.toList))
      | .neq => k (.bool (!(a.toList == b.toList)))
      | _ => kf
  | .pointer a, .pointer none => tyK tab ty (fun ti => match ti.und with
      | .ptr _ => match op, a with
        | .eql, none => k (.bool true)
        | .eql, some _ => k (.bool false)
        | .neq, none => k (.bool false)
        | .neq, some _ => k (.bool true)
        | _, _ => kf
      | _ => kf) kf
  | .slice a _ _, .slice none _ _ => tyK tab ty (fun ti => match ti.und with
      | .slice _ => match op, a with
        | .eql, none => k (.bool true)
        | .eql, some _ => k (.bool false)
        | .neq, none => k (.bool false)
        | .neq, some _ => k (.bool true)
        | _, _ => kf
      | _ => kf) kf
  | _, _ => kf

def pureK (tab : Tab) (e : Env) (op : Op) (k : Value → Prop) (kf : Prop) : Prop :=
  match op with
  | .move x => evK e x k kf
  | .assign x => evK e x k kf
  | .nilCheck x => evK e x (fun v => match v with
      | .pointer (some a) => k (.pointer (some a))
      | _ => kf) kf
  | .extract x i => evK e x (fun v => match v with
      | .tuple vs => nthK vs.toList i k kf
      | _ => kf) kf
  | .fieldAddr s x f => evK e x (fun v => match v with
      | .pointer (some ⟨b, off, none⟩) => tyK tab s (fun ti => match ti.und with
        | .struct fs => nthK fs f (fun p => match p with
          | (o, sz) => bif Nat.beq sz 0 then kf else bif Nat.beq o 0 then k (.pointer (some ⟨b, off, none⟩)) else k (.pointer (some ⟨b, off + o, none⟩))) kf
        | _ => kf) kf
      | _ => kf) kf
  | .binOp op ty x y _ => evK e x (fun a => evK e y (fun b => binK tab op ty a b k kf) kf) kf
  | .unOp .not _ x => evK e x (fun v => match v with
      | .bool b => k (.bool (!b))
      | _ => kf) kf
  | .pick c a b => evK e c (fun v => match v with
      | .bool true => evK e a k kf
      | .bool false => evK e b k kf
      | _ => kf) kf
  | .call ⟨.builtin .len, args, tys⟩ => match args.toList, tys.toList with
      | [x], [t] => evK e x (fun v => tyK tab t (fun ti => match v with
        | .slice _ n _ => (match ti.und with
          | .slice _ => k (.int .i64 n)
          | _ => kf)
        | .string s => (match ti.und with
          | .string => k (.int .i64 s.size)
          | _ => kf)
        | _ => kf) kf) kf
      | _, _ => kf
  | .call ⟨.builtin .min, args, _⟩ => match args.toList with
      | [x, y] => evK e x (fun u => evK e y (fun v => match u, v with
        | .int i a, .int _ b => k (.int i (if b < a then b else a))
        | _, _ => kf) kf) kf
      | _ => kf
  | .call ⟨.builtin .max, args, _⟩ => match args.toList with
      | [x, y] => evK e x (fun u => evK e y (fun v => match u, v with
        | .int i a, .int _ b => k (.int i (if a < b then b else a))
        | _, _ => kf) kf) kf
      | _ => kf
  | _ => kf

section
variable {X : Cx} {e : Env} {k : Value → Prop} {kf : Prop}

theorem run_und {P : Program} {t : Nat} {ti : TI} (h : TIok P t ti) (w : World) : ∃ d, P.underlying t = some d ∧ (underlying t).run P w = .ok d w := by
  have := h.und
  unfold undOf at this
  cases hd : P.underlying t with
  | none => simp [hd] at this
  | some d => exact ⟨d, rfl, run_underlying hd w⟩

theorem run_size {P : Program} {t : Nat} {i : TypeInfo} (hi : P.info? t = some i) (w : World) : (sizeOf t).run P w = .ok i.size w := by
  simp [sizeOf, typeInfo, hi]

theorem run_fieldAt {P : Program} {S f : Nat} {flds : Array Field} {fl : Field} {i : TypeInfo} (hund : P.underlying S = some (.struct flds)) (hf : flds[f]? = some fl) (hi : P.info? fl.type = some i) (hz : i.size ≠ 0) (b off : Nat) (w : World) :
    (Instr.fieldAt S (.pointer (some ⟨b, off, none⟩)) f).run P w = .ok (.pointer (some ⟨b, off + fl.offset, none⟩)) w := by
  simp [Instr.fieldAt, run_underlying hund, hf, Instr.sureAddr, fieldPlace, run_size hi, hz, Addr.add_mid]

theorem run_equal_bool {P : Program} {ty : Nat} (hund : P.underlying ty = some .bool) (c d : Bool) (w : World) : (Op.equal ty (.bool c) (.bool d)).run P w = .ok (c == d) w := by
  unfold Op.equal
  show (Op.equalIn (9999 + 1) ty (.bool c) (.bool d)).run P w = _
  rw [Op.equalIn, Sem.run_bind, run_underlying hund]
  rfl

theorem run_equal_ptr {P : Program} {ty el : Nat} (hund : P.underlying ty = some (.pointer el)) (a : Option Addr) (w : World) : (Op.equal ty (.pointer a) (.pointer none)).run P w = .ok a.isNone w := by
  unfold Op.equal
  show (Op.equalIn (9999 + 1) ty (.pointer a) (.pointer none)).run P w = _
  rw [Op.equalIn, Sem.run_bind, run_underlying hund]
  cases a <;> rfl
theorem run_equal_slice {P : Program} {ty el : Nat} (hund : P.underlying ty = some (.slice el)) (a : Option Addr) (n m i j : Nat) (w : World) : (Op.equal ty (.slice a n m) (.slice none i j)).run P w = .ok a.isNone w := by
  unfold Op.equal
  show (Op.equalIn (9999 + 1) ty (.slice a n m) (.slice none i j)).run P w = _
  rw [Op.equalIn, Sem.run_bind, run_underlying hund]
  cases a <;> rfl

theorem binK_light {op : BinOp} {ty : Nat} {x y : Operand} {yt : Nat} {a b : Value} (hx : ev e x = some a) (hy : ev e y = some b) (h : binK X.tab op ty a b k kf) :
    (∃ v, Light X (.binOp op ty x y yt) e v ∧ k v) ∨ kf := by
  have E : ∀ v, (∀ w, (do eqGuard op ty x y a b; binOp op ty a b : Sem Value).run X.P w = .ok v w) → Light X (.binOp op ty x y yt) e v := by
    intro v h a' ha dst t pos after guard w
    simp only [execOp, ha.ev hx, ha.ev hy]
    rw [Sem.run_bind, h w]
    rfl
  unfold binK at h
  split at h
  · rename_i j c i d
    cases hk : kindEq j i
    · rw [hk] at h; exact .inr h
    · rw [hk] at h
      have := kindEq_eq hk
      subst this
      simp only [cond_true] at h
      unfold cmpK at h
      split at h
      all_goals first
        | exact .inr h
        | (refine .inl ⟨_, E _ (fun w => ?_), h⟩
           simp [eqGuard, binOp, Op.intCmp])
  · rename_i c d
    rcases tyK_spec h with ⟨ti, ht, h⟩ | h
    · split at h
      · rename_i hu
        have hund : X.P.underlying ty = some .bool := by
          have := (X.ok.look ht).und
          rw [hu] at this
          unfold undOf at this
          split at this <;> simp_all
        split at h
        · refine .inl ⟨_, E _ (fun w => ?_), h⟩
          show ((do pure (.bool (← Op.equal ty (.bool c) (.bool d))) : Sem Value)).run X.P w = _
          rw [Sem.run_bind, run_equal_bool hund]; rfl
        · refine .inl ⟨_, E _ (fun w => ?_), h⟩
          show ((do pure (.bool (!(← Op.equal ty (.bool c) (.bool d)))) : Sem Value)).run X.P w = _
          rw [Sem.run_bind, run_equal_bool hund]; rfl
        · exact .inr h
      · exact .inr h
    · exact .inr h
  · split at h
    · refine .inl ⟨_, E _ (fun w => ?_), h⟩
      simp [eqGuard, binOp, Op.stringOp]
    · refine .inl ⟨_, E _ (fun w => ?_), h⟩
      simp [eqGuard, binOp, Op.stringOp]
    · exact .inr h
  · rename_i a
    rcases tyK_spec h with ⟨ti, ht, h⟩ | h
    · split at h
      · rename_i el hu
        have hund : X.P.underlying ty = some (.pointer el) := by
          have := (X.ok.look ht).und
          rw [hu] at this
          unfold undOf at this
          split at this <;> simp_all
        have r1 : ∀ w, ((do pure (.bool (← Op.equal ty (.pointer a) (.pointer none))) : Sem Value)).run X.P w = .ok (.bool a.isNone) w := fun w => by
          rw [Sem.run_bind, run_equal_ptr hund]; rfl
        have r2 : ∀ w, ((do pure (.bool (!(← Op.equal ty (.pointer a) (.pointer none)))) : Sem Value)).run X.P w = .ok (.bool (!a.isNone)) w := fun w => by
          rw [Sem.run_bind, run_equal_ptr hund]; rfl
        split at h
        · exact .inl ⟨_, E _ (fun w => r1 w), h⟩
        · exact .inl ⟨_, E _ (fun w => r1 w), h⟩
        · exact .inl ⟨_, E _ (fun w => r2 w), h⟩
        · exact .inl ⟨_, E _ (fun w => r2 w), h⟩
        · exact .inr h
      · exact .inr h
    · exact .inr h
  · rename_i a n m i j
    rcases tyK_spec h with ⟨ti, ht, h⟩ | h
    · split at h
      · rename_i el hu
        have hund : X.P.underlying ty = some (.slice el) := by
          have := (X.ok.look ht).und
          rw [hu] at this
          unfold undOf at this
          split at this <;> simp_all
        have r1 : ∀ w, ((do pure (.bool (← Op.equal ty (.slice a n m) (.slice none i j))) : Sem Value)).run X.P w = .ok (.bool a.isNone) w := fun w => by
          rw [Sem.run_bind, run_equal_slice hund]; rfl
        have r2 : ∀ w, ((do pure (.bool (!(← Op.equal ty (.slice a n m) (.slice none i j)))) : Sem Value)).run X.P w = .ok (.bool (!a.isNone)) w := fun w => by
          rw [Sem.run_bind, run_equal_slice hund]; rfl
        split at h
        · exact .inl ⟨_, E _ (fun w => r1 w), h⟩
        · exact .inl ⟨_, E _ (fun w => r1 w), h⟩
        · exact .inl ⟨_, E _ (fun w => r2 w), h⟩
        · exact .inl ⟨_, E _ (fun w => r2 w), h⟩
        · exact .inr h
      · exact .inr h
    · exact .inr h
  · exact .inr h

theorem light_of {op : Op} {v : Value} (h : ∀ a, Agr X.n a e → ∀ dst ty pos after guard w, (execOp a.eval ⟨dst, op, ty, pos, after, guard⟩).run X.P w = .ok (.value v) w) : Light X op e v := h

theorem run_len {P : Program} {t : Nat} {d : TypeDesc} (hd : P.underlying t = some d) (w : World) (x v : Value)
    (h : (d = .string ∧ ∃ s, x = .string s ∧ v = .int .i64 s.size) ∨ ((∃ el, d = .slice el) ∧ ∃ a n c, x = .slice a n c ∧ v = .int .i64 n)) (r : Nat) :
    (Builtin.len_ #[t] r #[x]).run P w = .ok v w := by
  rcases h with ⟨rfl, s, rfl, rfl⟩ | ⟨⟨el, rfl⟩, a, n, c, rfl, rfl⟩
  · simp [Builtin.len_, run_underlying hd, goInt]
  · simp [Builtin.len_, run_underlying hd, goInt]

theorem pureK_light {op : Op} (h : pureK X.tab e op k kf) : (∃ v, Light X op e v ∧ k v) ∨ kf := by
  unfold pureK at h
  split at h
  · rcases evK_spec h with ⟨v, hv, h⟩ | h
    · exact .inl ⟨v, fun a ha _ _ _ _ _ w => by simp only [execOp, ha.ev hv]; rfl, h⟩
    · exact .inr h
  · rcases evK_spec h with ⟨v, hv, h⟩ | h
    · exact .inl ⟨v, fun a ha _ _ _ _ _ w => by simp only [execOp, ha.ev hv]; rfl, h⟩
    · exact .inr h
  · rcases evK_spec h with ⟨v, hv, h⟩ | h
    · split at h
      · exact .inl ⟨_, fun a ha _ _ _ _ _ w => by simp only [execOp, ha.ev hv]; rfl, h⟩
      · exact .inr h
    · exact .inr h
  · rcases evK_spec h with ⟨v, hv, h⟩ | h
    · split at h
      · rename_i vs _
        rcases nthK_spec h with ⟨u, hu, h⟩ | h
        · refine .inl ⟨u, fun a ha _ _ _ _ _ w => ?_, h⟩
          rw [Array.getElem?_toList] at hu
          simp only [execOp, ha.ev hv, Instr.extract, hu]; rfl
        · exact .inr h
      · exact .inr h
    · exact .inr h
  · rcases evK_spec h with ⟨v, hv, h⟩ | h
    · split at h
      · rename_i b off
        rcases tyK_spec h with ⟨ti, ht, h⟩ | h
        · split at h
          · rename_i fs hu
            rcases nthK_spec h with ⟨⟨o, sz⟩, hp, h⟩ | h
            · dsimp only at h
              cases hz : Nat.beq sz 0
              case true => rw [hz] at h; exact .inr h
              case false =>
                rw [hz] at h
                have hsz : sz ≠ 0 := Nat.ne_of_beq_eq_false hz
                have hok := (X.ok.look ht).und
                rw [hu] at hok
                obtain ⟨flds, hund, hfl⟩ : ∃ flds, X.P.underlying _ = some (.struct flds) ∧ flds.toList.map (fun f => (f.offset, ((X.P.info? f.type).map (·.size)).getD 0)) = fs := by
                  unfold undOf at hok
                  split at hok <;> simp at hok
                  rename_i fl hfl
                  exact ⟨fl, hfl, by simpa using hok⟩
                rw [← hfl] at hp
                simp only [List.getElem?_map, Option.map_eq_some_iff, Prod.mk.injEq] at hp
                obtain ⟨f, hf, ho, hsf⟩ := hp
                rw [Array.getElem?_toList] at hf
                have hi : ∃ i, X.P.info? f.type = some i ∧ i.size = sz := by
                  cases hq : X.P.info? f.type with
                  | none => simp [hq] at hsf; exact (hsz hsf.symm).elim
                  | some i => exact ⟨i, rfl, by simpa [hq] using hsf⟩
                obtain ⟨i, hi, hiz⟩ := hi
                have key := run_fieldAt hund hf hi (by rw [hiz]; exact hsz) b off
                rw [ho] at key
                simp only [cond_false] at h
                cases hoz : Nat.beq o 0
                · rw [hoz] at h
                  refine .inl ⟨_, fun a ha _ _ _ _ _ w => ?_, h⟩
                  simp only [execOp, ha.ev hv, Sem.run_bind, key w]; rfl
                · rw [hoz] at h
                  refine .inl ⟨_, fun a ha _ _ _ _ _ w => ?_, h⟩
                  have := Nat.eq_of_beq_eq_true hoz
                  subst this
                  simp only [execOp, ha.ev hv, Sem.run_bind, key w]; rfl
            · exact .inr h
          · exact .inr h
        · exact .inr h
      · exact .inr h
    · exact .inr h
  · rcases evK_spec h with ⟨a, ha, h⟩ | h
    · rcases evK_spec h with ⟨b, hb, h⟩ | h
      · exact binK_light ha hb h
      · exact .inr h
    · exact .inr h
  · rcases evK_spec h with ⟨v, hv, h⟩ | h
    · split at h
      · exact .inl ⟨_, fun a ha _ _ _ _ _ w => by simp only [execOp, ha.ev hv]; rfl, h⟩
      · exact .inr h
    · exact .inr h
  · rcases evK_spec h with ⟨v, hv, h⟩ | h
    · split at h
      · rcases evK_spec h with ⟨u, hu, h⟩ | h
        · exact .inl ⟨_, fun a ha _ _ _ _ _ w => by simp only [execOp, ha.ev hv, ha.ev hu]; rfl, h⟩
        · exact .inr h
      · rcases evK_spec h with ⟨u, hu, h⟩ | h
        · exact .inl ⟨_, fun a ha _ _ _ _ _ w => by simp only [execOp, ha.ev hv, ha.ev hu]; rfl, h⟩
        · exact .inr h
      · exact .inr h
    · exact .inr h
  · rename_i args tys
    split at h
    · rename_i x t hx ht
      have hargs : args = #[x] := by apply Array.toList_inj.1; simpa using hx
      have htys : tys = #[t] := by apply Array.toList_inj.1; simpa using ht
      subst hargs; subst htys
      rcases evK_spec h with ⟨v, hv, h⟩ | h
      · rcases tyK_spec h with ⟨ti, htt, h⟩ | h
        · have hok := (X.ok.look htt).und
          split at h
          · rename_i el n c _
            split at h
            · rename_i hu
              rw [hu] at hok
              have hund : ∃ d, X.P.underlying t = some d ∧ ∃ el, d = .slice el := by
                unfold undOf at hok
                split at hok <;> simp at hok
                rename_i hd; exact ⟨_, hd, _, rfl⟩
              obtain ⟨d, hd, hd'⟩ := hund
              refine .inl ⟨_, fun a' ha _ _ _ _ _ w => ?_, h⟩
              have hr := fun r => run_len hd w (.slice el n c) (.int .i64 n) (.inr ⟨hd', el, n, c, rfl, rfl⟩) r
              simp [execOp, resolve, invoke, builtin, ha.ev hv, hr]
            · exact .inr h
          · rename_i s _
            split at h
            · rename_i hu
              rw [hu] at hok
              have hund : X.P.underlying t = some .string := by
                unfold undOf at hok
                split at hok <;> simp_all
              refine .inl ⟨_, fun a' ha _ _ _ _ _ w => ?_, h⟩
              have hr := fun r => run_len hund w (.string s) (.int .i64 s.size) (.inl ⟨rfl, s, rfl, rfl⟩) r
              simp [execOp, resolve, invoke, builtin, ha.ev hv, hr]
            · exact .inr h
          · exact .inr h
        · exact .inr h
      · exact .inr h
    · exact .inr h
  · rename_i args tys
    split at h
    · rename_i x y hx
      have hargs : args = #[x, y] := by apply Array.toList_inj.1; simpa using hx
      subst hargs
      rcases evK_spec h with ⟨u, hu, h⟩ | h
      · rcases evK_spec h with ⟨v, hv, h⟩ | h
        · split at h
          · refine .inl ⟨_, fun a' ha _ _ _ _ _ w => ?_, h⟩
            simp [execOp, resolve, invoke, builtin, ha.ev hv, ha.ev hu, Builtin.min_, Builtin.min2]
          · exact .inr h
        · exact .inr h
      · exact .inr h
    · exact .inr h
  · rename_i args tys
    split at h
    · rename_i x y hx
      have hargs : args = #[x, y] := by apply Array.toList_inj.1; simpa using hx
      subst hargs
      rcases evK_spec h with ⟨u, hu, h⟩ | h
      · rcases evK_spec h with ⟨v, hv, h⟩ | h
        · split at h
          · refine .inl ⟨_, fun a' ha _ _ _ _ _ w => ?_, h⟩
            simp [execOp, resolve, invoke, builtin, ha.ev hv, ha.ev hu, Builtin.max_, Builtin.max2]
          · exact .inr h
        · exact .inr h
      · exact .inr h
    · exact .inr h
  · exact .inr h

theorem Light.opT {op : Op} {v : Value} {L : List HP} (h : Light X op e v) : OpT X op e L (fun u L' => u = v ∧ L' = L) :=
  fun a w ha hw dst ty pos after guard => .inl ⟨v, w, L, h a ha dst ty pos after guard w, ⟨rfl, rfl⟩, hw⟩
end

/-- As far as operations only compute. -/
def runK (n : Nat) (tab : Tab) (ops : List Oper) (G : GS) : List Oper → Env → (List Oper → Env → Prop) → Prop
  | [], e, k => k [] e
  | o :: r, e, k => match o.dst with
    | none => k (o :: r) e
    | some d => match gLook G d, Nat.blt d n with
      | none, true => match o.guard with
        | none => pureK tab e o.op (fun v => runK n tab ops G r ((d, v) :: e) k) (k (o :: r) e)
        | some (j, want) => nthK ops j (fun oj => match oj.dst with
          | some dj => match gLook G dj with
            | some b => match gB b want with
              | true => pureK tab e o.op (fun v => runK n tab ops G r ((d, v) :: e) k) (k (o :: r) e)
              | false => runK n tab ops G r ((d, undef) :: e) k
            | none => k (o :: r) e
          | none => k (o :: r) e) (k (o :: r) e)
      | _, _ => k (o :: r) e

theorem runK_sound {X : Cx} {ops : Array Oper} {G : GS} {L : List HP} {K : Env → List HP → Prop} : ∀ {l : List Oper} {e : Env},
    runK X.n X.tab ops.toList G l e (fun l' e' => VO X ops G l' e' L K) → VO X ops G l e L K
  | [], e, h => h
  | o :: r, e, h => by
    unfold runK at h
    split at h
    · exact h
    · rename_i d hd
      split at h
      · rename_i hgl hlt
        have hdst : dstOk X.n o.dst = true := by rw [hd]; exact hlt
        have hfree : gFree G o.dst = true := by rw [hd]; simp [gFree, hgl]
        have step : ∀ {v}, gOn ops G o.guard = some true → Light X o.op e v → runK X.n X.tab ops.toList G r ((d, v) :: e) (fun l' e' => VO X ops G l' e' L K) → VO X ops G (o :: r) e L K := fun {v} hg hl hk => by
          refine VO.op hg hdst hfree hl.opT ?_
          rintro _ _ ⟨rfl, rfl⟩
          rw [hd]
          exact runK_sound hk
        split at h
        · rename_i hgd
          rcases pureK_light h with ⟨v, hl, hk⟩ | h
          · exact step (by rw [hgd]; rfl) hl hk
          · exact h
        · rename_i j want hgd
          rcases nthK_spec h with ⟨oj, hj, h⟩ | h
          · split at h
            · rename_i dj hdj
              split at h
              · rename_i b hb
                have hgo : gOn ops G o.guard = some (gB b want) := by
                  rw [hgd]; simp only [gOn, hj, hdj, hb]
                split at h
                · rename_i hbw
                  rw [hbw] at hgo
                  rcases pureK_light h with ⟨v, hl, hk⟩ | h
                  · exact step hgo hl hk
                  · exact h
                · rename_i hbw
                  rw [hbw] at hgo
                  refine VO.off hgo hdst hfree ?_
                  rw [hd]
                  exact runK_sound h
              · exact h
            · exact h
          · exact h
      · exact h

end Go.Proofs.YtbbnmgakmcppdaaGreat.Vg
