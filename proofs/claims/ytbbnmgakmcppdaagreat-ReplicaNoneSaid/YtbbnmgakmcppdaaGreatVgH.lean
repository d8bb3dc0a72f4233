/- The engine, part H: results in memory, clearing, texts, calls in regions that draw. No program is named; nothing is assumed. -/
import Derived.Test.YtbbnmgakmcppdaaGreatVgG
namespace Go.Proofs.YtbbnmgakmcppdaaGreat.Vg
open Go

/-! ### Results in memory -/
theorem run_loadVar {P : Program} {t : Nat} {ti : TI} (h : TIok P t ti) {b off : Nat} {v : Value} {w : World} (hr : Rd ti.und.agg ti.size b off v w) : (loadVar t ⟨b, off, none⟩).run P w = .ok v w := by
  have := run_loadAt h hr
  unfold Instr.loadAt at this
  simpa [Instr.sureAddr] using this

theorem Ret.cell {X : Cx} {fn : Func} {R : Value → List HP → Prop} {e : Env} {L : List HP} {T : TypeId} {ti : TI} {b : Nat} {v : Value} (p : Nat) (h : fn.results = #[.cell p T]) (hp : look e p = some (.pointer (some ⟨b, 0, none⟩))) (hT : tyLook X.tab T = some ti)
    (hr : RdL X L ti b 0 v) {L' : List HP} (he : Ent X L L') (hR : R v L') : Ret X fn R e L :=
  ⟨v, L', ⟨fun a w ha hw => by
    have := run_loadVar (X.ok.look hT) (hr w hw)
    have hp' := ha.at_ p _ hp
    simp only [Array.getD_eq_getD_getElem?] at hp'
    simp [results, h, hp', asAddr, this]⟩, he, hR⟩
theorem Ret.cellTmp {X : Cx} {fn : Func} {R : Value → List HP → Prop} {e : Env} {L : List HP} {T : TypeId} {ti : TI} {b : Nat} {v u : Value} (p q : Nat) (h : fn.results = #[.cell p T, .tmp q]) (hp : look e p = some (.pointer (some ⟨b, 0, none⟩))) (hT : tyLook X.tab T = some ti)
    (hr : RdL X L ti b 0 v) (hq : look e q = some u) {L' : List HP} (he : Ent X L L') (hR : R (.tuple #[v, u]) L') : Ret X fn R e L :=
  ⟨_, L', ⟨fun a w ha hw => by
    have := run_loadVar (X.ok.look hT) (hr w hw)
    have hp' := ha.at_ p _ hp
    have hq' := ha.at_ q _ hq
    simp only [Array.getD_eq_getD_getElem?] at hp' hq'
    simp [results, h, hp', hq', asAddr, this]⟩, he, hR⟩

section
variable {X : Cx} {ops : Array Oper} {G : GS} {l : List Oper} {e : Env} {L : List HP} {K : Env → List HP → Prop}
  {dst : Option Tmp} {ty : TypeId} {pos : String} {after : Array Edge} {guard : Option (Nat × Bool)}

/-- clear(s) of a slice in a block: its cells are zero. -/
theorem OpT.clear {t el b off n cap tb : Nat} {tt te : TI} {x : Operand} {cs : List Value} (i : Nat) (hx : ev e x = some (.slice (some ⟨b, off, none⟩) n cap)) (hL : L[i]? = some (pt b cs tb)) (hT : tyLook X.tab t = some tt) (hu : tt.und = .slice el) (hE : tyLook X.tab el = some te)
    (hn : 0 < n) (hl : off + n * te.size ≤ cs.length) (h1 : te.zs.all Value.oneCell' = true) :
    OpT X (.call ⟨.builtin .clear, #[x], #[t]⟩) e L (fun u L' => u = .tuple #[] ∧ L' = L.set i (pt b (wrC cs off (List.replicate n te.zs).flatten) tb)) := fun a w ha hw dst ty pos after guard => by
  have hund := und_slice (X.ok.look hT) hu
  have hok := X.ok.look hE
  obtain ⟨h0, hf⟩ := hw.atPt hL
  have hlen : ((List.replicate n te.zs).flatten).length = n * te.size := by simp [hok.len]
  have hz : Builtin.zeroCells te.zs.toArray n = ((List.replicate n te.zs).flatten).toArray := by
    have := flat_zero n te.zs te.size hok.len
    unfold Builtin.zeroCells
    simpa [hok.len] using this
  have hall : ((List.replicate n te.zs).flatten).all Value.oneCell' = true := by
    rw [List.all_eq_true] at h1 ⊢
    intro v hv
    obtain ⟨l, hl, hv⟩ := List.mem_flatten.1 hv
    rw [List.mem_replicate] at hl
    exact h1 v (hl.2 ▸ hv)
  have hst := run_storeCells_blk (P := X.P) _ 0 off w cs h0 (by rw [hlen]; simpa using hl) hall
  simp only [Nat.add_zero] at hst
  refine .inl ⟨_, _, _, ?_, ⟨rfl, rfl⟩, hw.set hL⟩
  have hn0 : n ≠ 0 := by omega
  have hb : (Builtin.clear_ #[t] ty #[.slice (some ⟨b, off, none⟩) n cap]).run X.P w = .ok (.tuple #[]) (setBlk w b (.cells (wrC cs off (List.replicate n te.zs).flatten).toArray tb (0, 0))) := by
    obtain ⟨k, rfl⟩ : ∃ k, n = k + 1 := ⟨n - 1, by omega⟩
    simp [Builtin.clear_, run_underlying hund, run_zero hok, hok.zero, hz, hst]
  simp [execOp, resolve, invoke, builtin, ha.ev hx, hb]

/-- Two texts, one behind the other. -/
theorem light_cat {xt yt : TypeId} {x y : Operand} {s t : ByteArray} (hx : ev e x = some (.string s)) (hy : ev e y = some (.string t)) (hs : s.size + t.size ≤ 9223372036854775807) : Light X (.binOp .add xt x y yt) e (.string (s ++ t)) := by
  intro a ha dst ty pos after guard w
  have h : ¬ (((s.size + t.size : Nat) : Int) > IntKind.i64.max) := by
    have : IntKind.i64.max = 9223372036854775807 := rfl
    omega
  have hb : Op.stringOp .add s t = pure (.string (s ++ t)) := by
    unfold Op.stringOp
    rw [if_neg h]
  simp only [execOp, ha.ev hx, ha.ev hy]
  show ((do eqGuard .add xt x y (.string s) (.string t); Op.stringOp .add s t : Sem Value) >>= fun v => pure (Next.value v)).run X.P w = _
  rw [hb]; rfl

/-- string(b), b a slice in a block that is a row of bytes. -/
theorem OpT.str {s d el b n cap tb : Nat} {ts td te : TI} {x : Operand} {bs : List UInt8} {cs : List Value} (i : Nat) (hx : ev e x = some (.slice (some ⟨b, 0, none⟩) n cap)) (hL : L[i]? = some (pt b cs tb)) (hS : tyLook X.tab s = some ts) (hsu : ts.und = .slice el) (hE : tyLook X.tab el = some te) (hEu : te.und = .int .u8)
    (hD : tyLook X.tab d = some td) (hdu : td.und = .string) (hn : bs.length = n) (hcs : cs.take n = bs.map fun c => Value.int .u8 (c.toNat : Int)) :
    OpT X (.convert s d x) e L (fun u L' => u = .string ⟨bs.toArray⟩ ∧ L' = L) := fun a w ha hw dst ty pos after guard => by
  have h1 := und_slice (X.ok.look hS) hsu
  have h2 := und_int (X.ok.look hE) hEu
  have h3 := und_string (X.ok.look hD) hdu
  obtain ⟨h0, _⟩ := hw.atPt hL
  have hr := run_convert_bytes_back (P := X.P) w s d el ⟨b, 0, none⟩ cap bs h1 h2 h3 (fun j hj => by
    rw [Addr.add_mid, cell_of_row w b (0 + j) _ tb (0, 0) h0]
    have : (cs.take n)[j]? = some (.int .u8 (bs[j].toNat : Int)) := by rw [hcs]; simp [hj]
    rw [List.getElem?_take, if_pos (by omega)] at this
    simpa using this)
  rw [hn] at hr
  refine .inl ⟨_, w, L, ?_, ⟨rfl, rfl⟩, hw⟩
  simp only [execOp, ha.ev hx]
  rw [Sem.run_bind, hr]; rfl
end

/-! ### In regions that draw -/
section
variable {X : Cx} {ops : Array Oper} {G : GS} {pl : Plan} {S : Pend} {e : Env} {L : List HP} {K : Env → List HP → Prop}
  {dst : Option Tmp} {ty : TypeId} {pos : String} {after : Array Edge} {guard : Option (Nat × Bool)}

theorem VA.light {i : Nat} {op : Op} {v : Value} (hi : ops.toList[i]? = some ⟨dst, op, ty, pos, after, guard⟩) (hl : Light X op e v) (hk : VA X ops G pl S (putE dst v e) L K)
    (hg : gOn ops G guard = some true := by rfl) (hd : dstOk X.n dst = true := by rfl) (hf : gFree G dst = true := by rfl) : VA X ops G (.take i pl) S e L K :=
  VA.pure hi hg hd hf hl hk

theorem VA.arith {op : BinOp} {xt yt : TypeId} {x y : Operand} {k : IntKind} {a b : Int} {i : Nat} (z : Int) (hi : ops.toList[i]? = some ⟨dst, .binOp op xt x y yt, ty, pos, after, guard⟩)
    (hx : ev e x = some (.int k a)) (hy : ev e y = some (.int k b))
    (hz : (match op with | .add => k.wrap (a + b) = z | .sub => k.wrap (a - b) = z | .mul => k.wrap (a * b) = z | _ => False))
    (hk : VA X ops G pl S (putE dst (.int k z) e) L K)
    (hg : gOn ops G guard = some true := by rfl) (hd : dstOk X.n dst = true := by rfl) (hf : gFree G dst = true := by rfl) : VA X ops G (.take i pl) S e L K := by
  refine VA.pure hi hg hd hf ?_ hk
  intro a' ha dst ty pos after guard w
  cases op <;> simp only at hz
  case add => simp [execOp, ha.ev hx, ha.ev hy, eqGuard, binOp, Op.intArith, hz]
  case sub => simp [execOp, ha.ev hx, ha.ev hy, eqGuard, binOp, Op.intArith, hz]
  case mul => simp [execOp, ha.ev hx, ha.ev hy, eqGuard, binOp, Op.intArith, hz]
theorem VA.add {xt yt : TypeId} {x y : Operand} {a b : Int} {i : Nat} (hi : ops.toList[i]? = some ⟨dst, .binOp .add xt x y yt, ty, pos, after, guard⟩)
    (hx : ev e x = some (.int .i64 a)) (hy : ev e y = some (.int .i64 b)) (h1 : -9223372036854775808 ≤ a + b) (h2 : a + b ≤ 9223372036854775807)
    (hk : VA X ops G pl S (putE dst (.int .i64 (a + b)) e) L K)
    (hg : gOn ops G guard = some true := by rfl) (hd : dstOk X.n dst = true := by rfl) (hf : gFree G dst = true := by rfl) : VA X ops G (.take i pl) S e L K := VA.arith (a + b) hi hx hy (i64_in _ h1 h2) hk hg hd hf
theorem VA.sub' {xt yt : TypeId} {x y : Operand} {a b : Int} {i : Nat} (hi : ops.toList[i]? = some ⟨dst, .binOp .sub xt x y yt, ty, pos, after, guard⟩)
    (hx : ev e x = some (.int .i64 a)) (hy : ev e y = some (.int .i64 b)) (h1 : -9223372036854775808 ≤ a - b) (h2 : a - b ≤ 9223372036854775807)
    (hk : VA X ops G pl S (putE dst (.int .i64 (a - b)) e) L K)
    (hg : gOn ops G guard = some true := by rfl) (hd : dstOk X.n dst = true := by rfl) (hf : gFree G dst = true := by rfl) : VA X ops G (.take i pl) S e L K := VA.arith (a - b) hi hx hy (i64_in _ h1 h2) hk hg hd hf

theorem filter_nil {S : Pend} {j : Nat} (h : S.all (fun p => waits ops j p.1) = true) : (S.filter fun p => !waits ops j p.1) = [] := by
  rw [List.filter_eq_nil_iff]
  intro p hp
  have := List.all_eq_true.1 h p hp
  simp [this]

/-- The only one that is ready; all that was read ahead has been read. -/
theorem VA.last {i : Nat} {o : Oper} {M : Value → List HP → Prop} (h : OpT X o.op e L M) (hi : ops.toList[i]? = some o) (hS : S.all (fun p => waits ops i p.1) = true)
    (hk : ∀ v L', M v L' → VA X ops G pl [] (putE o.dst v e) L' K)
    (hg : gOn ops G o.guard = some true := by rfl) (hd : dstOk X.n o.dst = true := by rfl) (hf : gFree G o.dst = true := by rfl) : VA X ops G (.only i pl) S e L K := by
  refine VA.op hi hg hd hf h (fun v L' _ w _ p hp hw => ?_) (fun v L' hm => ?_)
  · have := List.all_eq_true.1 hS p hp
    rw [hw] at this; cases this
  · rw [filter_nil hS]; exact hk v L' hm

/-- A call that leaves the heap as it is: what was read ahead stays readable. -/
theorem VA.callR {f : FuncId} {args : Array Operand} {tys : Array TypeId} {vals : List Value} {u : Value} {i : Nat}
    (ht : ∀ Fr' w, (∀ b, X.Fr b → Fr' b) → St X L w → SatIn Fr' L w → Tri X.P f vals Fr' w [] (fun v L => v = u ∧ L = []))
    (hi : ops.toList[i]? = some ⟨dst, .call ⟨.value (.func f), args, tys⟩, ty, pos, after, guard⟩) (hargs : evs e args.toList = some vals)
    (hst : ∀ w, St X L w → ∀ p ∈ S, waits ops i p.1 = false → p.2 w)
    (hk : VA X ops G pl (S.filter fun p => !waits ops i p.1) (putE dst u e) L K)
    (hg : gOn ops G guard = some true := by rfl) (hd : dstOk X.n dst = true := by rfl) (hf : gFree G dst = true := by rfl) : VA X ops G (.only i pl) S e L K := by
  refine VA.op (M := fun v L' => v = u ∧ L' = L) hi hg hd hf ?_ (fun v L' ⟨_, h2⟩ w hw => by subst h2; exact hst w hw) (fun v L' ⟨h1, h2⟩ => by subst h1; subst h2; exact hk)
  intro a w ha hw dst ty pos after guard
  rcases OpT.call (R := fun v L => v = u ∧ L = []) hargs (Lc := []) (Lr := L) (.refl _) ht a w ha hw dst ty pos after guard with ⟨v, w', L', h1, ⟨L1, ⟨h2, h3⟩, h4⟩, h5⟩ | ⟨w', L', h1, ⟨L1, ⟨h2, h3⟩, h4⟩, h5⟩ | ⟨f, args, h1, h2⟩
  · exact .inl ⟨v, w', L', h1, ⟨h2, by rw [h4, h3]; rfl⟩, h5⟩
  · exact .inr (.inl ⟨w', L', h1, ⟨h2, by rw [h4, h3]; rfl⟩, h5⟩)
  · refine .inr (.inr ⟨f, args, h1, Calls.mono h2 fun en w' ⟨v, L', h3, ⟨L1, ⟨h4, h5⟩, h6⟩, h7⟩ => ⟨v, L', h3, ⟨h4, by rw [h6, h5]; rfl⟩, h7⟩⟩)
end
end Go.Proofs.YtbbnmgakmcppdaaGreat.Vg
