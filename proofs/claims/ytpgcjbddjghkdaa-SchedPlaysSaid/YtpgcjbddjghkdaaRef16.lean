/- The reference's scheduler: how it lies in memory, how it is made, and what its small functions do. No condition. -/
import Derived.Test.YtpgcjbddjghkdaaSchedE
import Derived.Test.YtpgcjbddjghkdaaSchedN
import Derived.Test.YtpgcjbddjghkdaaRef09
import Derived.Test.YtpgcjbddjghkdaaVgP
namespace Go.Proofs.Ytpgcjbddjghkdaa.Ref16
open Go Go.Proofs.Ytpgcjbddjghkdaa.Vg Go.Proofs.Ytpgcjbddjghkdaa.T Go.Proofs.Ytpgcjbddjghkdaa.Api Go.Proofs.Ytpgcjbddjghkdaa.Sched
set_option linter.unusedSimpArgs false
set_option linter.unusedVariables false
attribute [local irreducible] VO VC VA

abbrev FL := RL FM
/-- Where the parts lie. -/
structure RfS where
  ua : Option Addr
  uc : Nat
  qb : Nat
  qc : Nat
  cb : Nat
  cc : Nat
  sb : Nat
  sc : Nat
  rows : List FL
def rfC (s : RfS) (n : Nat) (cap t : Int) (f : Bool) : List Value := [.int .i64 cap, .slice s.ua n s.uc, .slice (some ⟨s.qb, 0, none⟩) n s.qc, .slice (some ⟨s.cb, 0, none⟩) n s.cc, .slice (some ⟨s.sb, 0, none⟩) n s.sc, .int .i64 t, .bool f]
def crs (l : List ClsM) : List Value := l.map fun c => .int .i64 c.credit
def svs (l : List ClsM) : List Value := l.map fun c => .int .i64 c.served
def rfR (s : RfS) : List HP := s.rows.map fun r => r.h 44
def rfL (p : Nat) (S : SchM) (s : RfS) : List HP := pt p (rfC s S.cls.length S.cap S.turn S.fresh) 91 :: pt s.qb (s.rows.map RL.v) 56 :: pt s.cb (crs S.cls) 3 :: pt s.sb (svs S.cls) 3 :: rfR s
structure RfOk (S : SchM) (a : Option Addr) (s : RfS) : Prop where
  wf : S.Wf
  ua : s.ua = a
  len : s.rows.length = S.cls.length
  ok : ∀ (k : Nat) (r : FL), s.rows[k]? = some r → r.Ok fmc 29
  link : ∀ (k : Nat) (r : FL) (c : ClsM), s.rows[k]? = some r → S.cls[k]? = some c → r.xs.map Prod.fst = c.q
def rfH (p : Nat) (a : Option Addr) (S : SchM) : HP := hex fun s => hsep (hpure (RfOk S a s) :: rfL p S s)
theorem HOpn.rf (p : Nat) (a : Option Addr) (S : SchM) : HOpn (rfH p a S) (fun s => RfOk S a s) (fun s => rfL p S s) := by
  rintro w ids ⟨s, h⟩ hn
  obtain ⟨F, G, rfl, ⟨rfl, h1⟩, h2⟩ := h
  exact ⟨s, h1, G, h2, by simpa using hn, fun b hb => by simpa using hb⟩
theorem rf_shut {p : Nat} {a : Option Addr} {S : SchM} {L : List HP} (s : RfS) (hs : RfOk S a s) (h : Imp L (rfL p S s)) : Imp L [rfH p a S] :=
  Imp.ex s (Imp.sep (Imp.trans h (Imp.of_eq (List.append_nil _).symm |>.trans (Imp.pure hs Imp.refl))))
structure RfIn (Fr : Nat → Prop) (w : World) (p : Nat) (a : Option Addr) (S : SchM) (s : RfS) : Prop where
  ok : RfOk S a s
  at0 : Blk Fr w p (rfC s S.cls.length S.cap S.turn S.fresh)
  q : Blk Fr w s.qb (s.rows.map RL.v)
  cr : Blk Fr w s.cb (crs S.cls)
  sv : Blk Fr w s.sb (svs S.cls)
  row : ∀ (k : Nat) (r : FL) (b : Nat), s.rows[k]? = some r → r.blk = some b → Blk Fr w b r.cells
theorem RfIn.of {Fr : Nat → Prop} {w : World} {p : Nat} {a : Option Addr} {S : SchM} (h : SatIn Fr [rfH p a S] w) : ∃ s, RfIn Fr w p a S s := by
  obtain ⟨s, h⟩ := h.ex
  have h := h.sep
  exact ⟨s, h.pure 0 rfl, h.blk 1 rfl, h.blk 2 rfl, h.blk 3 rfl, h.blk 4 rfl, fun k r b hr hb => h.blk (t := 44) (k + 5) (by simp [rfL, rfR, hr, RL.h_pt hb])⟩

theorem RfOk.row {S : SchM} {a : Option Addr} {s : RfS} (h : RfOk S a s) {k : Nat} (hk : k < S.cls.length) : ∃ r c, s.rows[k]? = some r ∧ S.cls[k]? = some c ∧ r.Ok fmc 29 ∧ r.xs.map Prod.fst = c.q := by
  have hk' : k < s.rows.length := by rw [h.len]; exact hk
  have h1 := List.getElem?_eq_getElem hk'
  have h2 := List.getElem?_eq_getElem hk
  exact ⟨_, _, h1, h2, h.ok _ _ h1, h.link _ _ _ h1 h2⟩
theorem rows_v {s : RfS} {k : Nat} {r : FL} (hr : s.rows[k]? = some r) : (s.rows.map RL.v)[0 + k * 1]? = some r.v := by rw [Nat.zero_add, Nat.mul_one, List.getElem?_map, hr]; rfl
theorem crs_at {l : List ClsM} {k : Nat} {c : ClsM} (hc : l[k]? = some c) : (crs l)[0 + k * 1]? = some (.int .i64 c.credit) := by rw [Nat.zero_add, Nat.mul_one, crs, List.getElem?_map, hc]; rfl
theorem svs_at {l : List ClsM} {k : Nat} {c : ClsM} (hc : l[k]? = some c) : (svs l)[0 + k * 1]? = some (.int .i64 c.served) := by rw [Nat.zero_add, Nat.mul_one, svs, List.getElem?_map, hc]; rfl
theorem crs_set {l : List ClsM} {k : Nat} {c : ClsM} {x : Int} (hx : x = c.credit) : (crs l).set (0 + k * 1) (.int .i64 x) = crs (l.set k c) := by subst hx; rw [Nat.zero_add, Nat.mul_one, crs, crs, List.map_set]
theorem svs_set {l : List ClsM} {k : Nat} {c : ClsM} {x : Int} (hx : x = c.served) : (svs l).set (0 + k * 1) (.int .i64 x) = svs (l.set k c) := by subst hx; rw [Nat.zero_add, Nat.mul_one, svs, svs, List.map_set]
theorem crs_len (l : List ClsM) : (crs l).length = l.length := by simp [crs]
theorem svs_len (l : List ClsM) : (svs l).length = l.length := by simp [svs]
theorem crs_same {l : List ClsM} {k : Nat} {c c' : ClsM} (hc : l[k]? = some c) (h : c'.credit = c.credit) : crs (l.set k c') = crs l := by
  rw [← crs_set (x := c.credit) h.symm]
  have := crs_at hc
  rw [Nat.zero_add, Nat.mul_one] at this ⊢
  rw [← (List.getElem?_eq_some_iff.1 this).2]; simp
theorem svs_same {l : List ClsM} {k : Nat} {c c' : ClsM} (hc : l[k]? = some c) (h : c'.served = c.served) : svs (l.set k c') = svs l := by
  rw [← svs_set (x := c.served) h.symm]
  have := svs_at hc
  rw [Nat.zero_add, Nat.mul_one] at this ⊢
  rw [← (List.getElem?_eq_some_iff.1 this).2]; simp
theorem rf_h {s : RfS} {k : Nat} {r : FL} (hr : s.rows[k]? = some r) : (rfR s)[k]? = some (r.h 44) := by simp [rfR, hr]

/-- One row, and its class, are other ones. -/
theorem RfOk.set {S : SchM} {a : Option Addr} {s : RfS} (h : RfOk S a s) {k t : Nat} {c' : ClsM} {r' : FL} {fr : Bool} (hok : r'.Ok fmc 29) (hq : r'.xs.map Prod.fst = c'.q) (hw : SchM.Wf ⟨S.cls.set k c', S.cap, t, fr⟩) : RfOk ⟨S.cls.set k c', S.cap, t, fr⟩ a { s with rows := s.rows.set k r' } := by
  refine ⟨hw, h.ua, by simp [h.len], fun j r hr => ?_, fun j r c hr hc => ?_⟩
  · rcases List.mem_or_eq_of_mem_set (List.mem_of_getElem? hr) with hm | rfl
    · obtain ⟨i, hi⟩ := List.getElem?_of_mem hm
      exact h.ok i r hi
    · exact hok
  · by_cases hjk : k = j
    · subst hjk
      have hk1 : k < s.rows.length := by have := (List.getElem?_eq_some_iff.1 hr).1; simpa using this
      have hk2 : k < S.cls.length := by have := (List.getElem?_eq_some_iff.1 hc).1; simpa using this
      simp only [List.getElem?_set_self hk1, Option.some.injEq] at hr
      simp only [List.getElem?_set_self hk2, Option.some.injEq] at hc
      subst hr; subst hc; exact hq
    · simp only [List.getElem?_set_ne hjk] at hr hc
      exact h.link j r c hr hc
/-- A class alone is another one. -/
theorem RfOk.setC {S : SchM} {a : Option Addr} {s : RfS} (h : RfOk S a s) {k t : Nat} {c c' : ClsM} {fr : Bool} (hc : S.cls[k]? = some c) (hq : c'.q = c.q) (hw : SchM.Wf ⟨S.cls.set k c', S.cap, t, fr⟩) : RfOk ⟨S.cls.set k c', S.cap, t, fr⟩ a s := by
  obtain ⟨r, c1, hr, hc1, hok, hl⟩ := h.row (List.getElem?_eq_some_iff.1 hc).1
  obtain rfl : c1 = c := by rw [hc1] at hc; exact Option.some.inj hc
  have := h.set (r' := r) hok (hl.trans hq.symm) hw
  rwa [show s.rows.set k r = s.rows from by rw [← (List.getElem?_eq_some_iff.1 hr).2]; simp] at this
theorem rfR_put {s : RfS} {k : Nat} {r' : FL} (hk : k < s.rows.length) : Imp (r'.h 44 :: rfR s) (rfR { s with rows := s.rows.set k r' }) := by
  refine Imp.trans (Imp.put (H := r'.h 44) k (by simpa [rfR] using hk)) (Imp.of_eq ?_)
  simp [rfR, List.map_set]

theorem has_spec (Fr : Nat → Prop) (w : World) {p n : Nat} {s : RfS} {cap t : Int} {f : Bool} (i : Int) (h : Blk Fr w p (rfC s n cap t f)) : Tri Try.prog 48 [.pointer (some ⟨p, 0, none⟩), .int .i64 i] Fr w [] (fun v L => v = .bool (decide (0 ≤ i ∧ i < n)) ∧ L = []) := by
  refine Tri.of 16 Try.func48 rfl (by kernel_rfl) tabOk rfl rfl ?_
  (repeat (first | refine VC.seq ?_ | refine VC.region ?_ | refine VC.block ?_ | refine VC.label ?_ | refine VC.scope ?_ | refine VO.go (VO.nil ?_) | refine VO.go (VO.ld 0 rfl rfl rfl rfl ?_)))
  refine VO.go (VO.split 7 rfl rfl (fun h1 => ?_) (fun h1 => ?_))
  · have h1 := of_decide_eq_true h1
    (repeat (first | refine VC.seq ?_ | refine VC.region ?_ | refine VC.block ?_ | refine VC.label ?_ | refine VC.scope ?_ | refine VO.go (VO.nil ?_) | refine VO.go (VO.load rfl rfl (RdL.blk h rfl) ?_)))
    exact VC.ret (Ret.bool 4 rfl rfl (by simp [h1]) Ent.refl ⟨rfl, rfl⟩)
  · have h1 := of_decide_eq_false h1
    (repeat (first | refine VC.seq ?_ | refine VC.region ?_ | refine VC.block ?_ | refine VC.label ?_ | refine VC.scope ?_ | refine VO.go (VO.nil ?_) | refine VO.go (VO.ld 0 rfl rfl rfl rfl ?_)))
    exact VC.ret (Ret.bool 4 rfl rfl (by simp [h1]) Ent.refl ⟨rfl, rfl⟩)

theorem on_spec (Fr : Nat → Prop) (w : World) {p n t : Nat} {s : RfS} {cap : Int} {f : Bool} (ht : t < n) (hn : n ≤ 4) : Tri Try.prog 45 [.pointer (some ⟨p, 0, none⟩)] Fr w [pt p (rfC s n cap t f) 91]
    (fun v L => v = .tuple #[] ∧ L = [pt p (rfC s n cap ((t + 1) % n : Nat) true) 91]) := by
  have fin : ∀ {x : Int}, x = ((t + 1) % n : Nat) → rfC s n cap x true = rfC s n cap ((t + 1) % n : Nat) true := fun {x} h => by rw [h]
  refine Tri.of 25 Try.func45 rfl (by kernel_rfl) tabOk rfl rfl ?_
  (repeat (first | refine VC.seq ?_ | refine VC.region ?_ | refine VC.block ?_ | refine VC.label ?_ | refine VC.scope ?_ | refine VO.go (VO.nil ?_) | refine VO.go (VO.ld 0 rfl rfl rfl rfl ?_)))
  refine VO.go (VO.add rfl rfl (by omega) (by omega) ?_)
  refine VO.go (VO.st 0 rfl rfl rfl rfl (by show 5 < 7; omega) rfl rfl (VO.go (VO.nil ?_)))
  refine VC.seq (VC.seq (VC.draw (ts 0 10 .nil) (by kernel_rfl) (by decide +kernel) ?_))
  (repeat (first | refine VA.go (VA.nil ?_) | refine VA.go (VA.ld 0 rfl rfl rfl rfl rfl ?_)))
  refine VC.condE rfl (fun h1 => ?_) (fun h1 => VC.skip ?_)
  · (repeat (first | refine VC.seq ?_ | refine VC.region ?_ | refine VC.block ?_ | refine VC.label ?_ | refine VC.scope ?_ | refine VO.go (VO.nil ?_) | refine VO.go (VO.ld 0 rfl rfl rfl rfl ?_)))
    refine VO.go (VO.st 0 rfl rfl rfl rfl (by show 5 < 7; omega) rfl rfl (VO.go (VO.nil ?_)))
    (repeat (first | refine VC.seq ?_ | refine VC.region ?_ | refine VC.block ?_ | refine VC.label ?_ | refine VC.scope ?_ | refine VO.go (VO.nil ?_) | refine VO.go (VO.ld 0 rfl rfl rfl rfl ?_)))
    refine VO.go (VO.st 0 rfl rfl rfl rfl (by show 6 < 7; omega) rfl rfl (VO.go (VO.nil ?_)))
    refine Ret.void rfl Ent.refl ⟨rfl, ?_⟩
    rw [← fin (x := 0) (by
      have : t + 1 = n := by omega
      rw [this, Nat.mod_self]; rfl)]
    rfl
  · (repeat (first | refine VC.seq ?_ | refine VC.region ?_ | refine VC.block ?_ | refine VC.label ?_ | refine VC.scope ?_ | refine VO.go (VO.nil ?_) | refine VO.go (VO.ld 0 rfl rfl rfl rfl ?_)))
    refine VO.go (VO.st 0 rfl rfl rfl rfl (by show 6 < 7; omega) rfl rfl (VO.go (VO.nil ?_)))
    refine Ret.void rfl Ent.refl ⟨rfl, ?_⟩
    rw [← fin (x := (t : Int) + 1) (by
      rw [Nat.mod_eq_of_lt (by omega)]; push_cast; rfl)]
    rfl

/-! ### Waiting -/
set_option maxRecDepth 100000 in
theorem waiting_spec (Fr : Nat → Prop) (w : World) {p : Nat} {a : Option Addr} {S : SchM} (h : SatIn Fr [rfH p a S] w) :
    Tri Try.prog 50 [.pointer (some ⟨p, 0, none⟩)] Fr w [] (fun v L => ∃ a c gs, gs.map Prod.fst = S.waitM ∧ v = .slice a gs.length c ∧ L = [frH a c gs]) := by
  obtain ⟨s, h⟩ := RfIn.of h
  have hb := h.at0
  have hq := h.q
  have hn := h.ok.len
  have hn4 := h.ok.wf.n1
  refine Tri.of 24 Try.func50 rfl (by kernel_rfl) tabOk rfl rfl ?_
  (repeat (first | refine VC.seq ?_ | refine VC.region ?_ | refine VC.block ?_ | refine VC.label ?_ | refine VC.scope ?_ | refine VO.go (VO.nil ?_) | refine VO.go (VO.ld 0 rfl rfl rfl rfl ?_)))
  refine VC.loop (σ := Nat × Option Addr × Nat × List FM) (fun x => [(0, .pointer (some ⟨p, 0, none⟩)), (3, .slice x.2.1 x.2.2.2.length x.2.2.1), (4, .int .i64 x.1)]) (fun x => [frH x.2.1 x.2.2.1 x.2.2.2]) (fun x => WaitI S.cls.length ((S.cls.take x.1).flatMap ClsM.q) x) (fun x => 4 - x.1) (0, none, 0, []) ⟨Nat.zero_le _, Nat.le_refl _, rfl⟩ (Sub.cons rfl (Sub.cons rfl (Sub.cons rfl (Sub.nil _)))) (Imp.slNil Imp.refl).ent ?_
  rintro ⟨i, a, c, gs⟩ ⟨hi, hroom, hgs⟩
  dsimp only at hi hroom hgs ⊢
  (repeat (first | refine VC.seq ?_ | refine VC.region ?_ | refine VC.block ?_ | refine VC.label ?_ | refine VC.scope ?_ | refine VO.go (VO.nil ?_) | refine VO.go (VO.load rfl rfl (RdL.blk hb rfl) ?_)))
  refine VC.condP rfl (fun h1 => VC.skip ?_) (fun h1 => VC.exit ?_)
  · have hk : i < S.cls.length := by omega
    obtain ⟨r, cl, hr, hc, hok, hl⟩ := h.ok.row hk
    have hlen : r.xs.length = cl.q.length := by have := congrArg List.length hl; simpa using this
    have hql := h.ok.wf.qs cl (List.mem_of_getElem? hc)
    have hcap := h.ok.wf.cap1
    have hlenA := h.ok.wf.few i
    have hgl : gs.length ≤ 64 := by
      have := congrArg List.length hgs
      rw [List.length_map] at this
      omega
    (repeat (first | refine VC.seq ?_ | refine VC.region ?_ | refine VC.block ?_ | refine VC.label ?_ | refine VC.scope ?_ | refine VO.go (VO.nil ?_) | refine VO.go (VO.load rfl rfl (RdL.blk hb rfl) ?_)))
    refine VO.go (VO.light (light_idx i rfl rfl rfl rfl rfl rfl hk) ?_)
    refine VO.go (VO.load rfl rfl (RdL.blk hq (rows_v hr)) ?_)
    have hrd : RdRow (⟨Try.prog, tab, tabOk, 24, Fr, w⟩ : Cx) [frH a c gs] r.v 29 r.xs.length (flat fmc r.xs) := by
      by_cases hx : r.xs = []
      · exact ⟨by simp [hx, flat], .inl ⟨r.addr, r.cap, rfl, by simp [hx]⟩⟩
      · obtain ⟨b, off, h1, h2, h3⟩ := hok.at_ hx
        rw [RL.v, h2]
        exact RdRow.blk (h.row i r b hr h1) (flat_rows h3) (flat_len fmc_len _)
    refine VO.go (VO.append (m := r.xs.length) (news := flat fmc r.xs) 0 rfl rfl rfl rfl rfl rfl rfl hrd (flat_all fmc_one _) (by show (gs.length + r.xs.length) * 288 ≤ _; omega) (by omega) fun a' c' hc' => VO.go (VO.nil ?_))
    (repeat (first | refine VC.seq ?_ | refine VC.region ?_ | refine VC.block ?_ | refine VC.label ?_ | refine VC.scope ?_ | refine VO.go (VO.nil ?_) | refine VO.go (VO.ld 0 rfl rfl rfl rfl ?_)))
    refine VO.go (VO.add rfl rfl (by omega) (by omega) ?_)
    (repeat (first | refine VC.seq ?_ | refine VC.region ?_ | refine VC.block ?_ | refine VC.label ?_ | refine VC.scope ?_ | refine VO.go (VO.nil ?_) | refine VO.go (VO.ld 0 rfl rfl rfl rfl ?_)))
    have hL : (gs ++ r.xs).length = gs.length + r.xs.length := by simp
    refine ⟨(i + 1, a', c', gs ++ r.xs), ⟨hk, by dsimp only; rw [hL]; exact hc', ?_⟩, by dsimp only; omega, Sub.cons rfl (Sub.cons (by rw [hL]; rfl) (Sub.cons rfl (Sub.nil _))), (Imp.of_eq ?_).ent⟩
    · dsimp only; rw [List.map_append, hgs, hl, List.take_add_one, hc, List.flatMap_append]; simp
    · dsimp only; rw [← hL, ← flat_append]; rfl
  · have hk : i = S.cls.length := by omega
    subst hk
    rw [List.take_length] at hgs
    (repeat (first | refine VC.seq ?_ | refine VC.region ?_ | refine VC.block ?_ | refine VC.label ?_ | refine VC.scope ?_ | refine VO.go (VO.nil ?_) | refine VO.go (VO.ld 0 rfl rfl rfl rfl ?_)))
    exact VC.ret (Ret.tmp 2 rfl rfl Ent.refl ⟨a, c, gs, hgs, rfl, rfl⟩)

/-! ### Push -/
set_option maxRecDepth 100000 in
theorem push_spec (Fr : Nat → Prop) (w : World) (p : Nat) (a : Option Addr) (S : SchM) (f : FM) : Tri Try.prog 31 [.pointer (some ⟨p, 0, none⟩), .agg (fmc f).toArray] Fr w [rfH p a S] (fun v L => v = .int .i64 (S.pushM f.1).1 ∧ L = [rfH p a (S.pushM f.1).2]) := by
  refine Tri.of 44 Try.func31 rfl (by kernel_rfl) tabOk rfl rfl ?_
  refine VC.seq (VC.region (VO.go (VO.boxA (vs := fmc f) rfl fun b => VO.go (VO.nil ?_))))
  refine VC.opn 1 rfl (HOpn.rf p a S) fun s h => ?_
  refine VC.ent (L' := pt b (fmc f) 44 :: rfL p S s) (Imp.perm List.perm_append_comm).ent ?_
  have hn := h.len
  have hn4 := h.wf.n1
  have out : ∀ {X : Cx}, Ent X (pt b (fmc f) 44 :: rfL p S s) [rfH p a S] := fun {X} => (Imp.trans Imp.tl (rf_shut s h Imp.refl)).ent
  (repeat (first | refine VC.seq ?_ | refine VC.region ?_ | refine VC.block ?_ | refine VC.label ?_ | refine VC.scope ?_ | refine VO.go (VO.nil ?_) | refine VO.go (VO.ld 0 rfl rfl rfl rfl ?_)))
  refine VO.go (VO.callV' (fun Fr w hF _ hs => has_spec Fr w f.1.cls (hs.blk 1 rfl)) rfl ?_)
  refine VO.go (VO.split 11 rfl rfl (fun h1 => ?_) (fun h1 => ?_))
  · have h1 : ¬ (0 ≤ f.1.cls ∧ f.1.cls < S.cls.length) := fun hx => by simp [hx] at h1
    (repeat (first | refine VC.seq ?_ | refine VC.region ?_ | refine VC.block ?_ | refine VC.label ?_ | refine VC.scope ?_ | refine VO.go (VO.nil ?_) | refine VO.go (VO.ld 0 rfl rfl rfl rfl ?_)))
    refine VC.condT rfl ?_
    (repeat (first | refine VC.seq ?_ | refine VC.region ?_ | refine VC.block ?_ | refine VC.label ?_ | refine VC.scope ?_ | refine VO.go (VO.nil ?_) | refine VO.go (VO.ld 0 rfl rfl rfl rfl ?_)))
    have e : S.pushM f.1 = (2, S) := by simp only [SchM.pushM, SchM.at_out h1]
    exact VC.ret (Ret.int 4 rfl rfl rfl out ⟨by rw [e], by rw [e]⟩)
  have h1 : 0 ≤ f.1.cls ∧ f.1.cls < S.cls.length := by simpa using h1
  obtain ⟨k, hfk⟩ := Int.eq_ofNat_of_zero_le h1.1
  have hk : k < S.cls.length := by omega
  obtain ⟨r, c, hr, hc, hok, hl⟩ := h.row hk
  have hlen : r.xs.length = c.q.length := by have := congrArg List.length hl; simpa using this
  have hat : S.at_ f.1.cls = some c := by rw [hfk, SchM.at_nat, hc]
  (repeat (first | refine VC.seq ?_ | refine VC.region ?_ | refine VC.block ?_ | refine VC.label ?_ | refine VC.scope ?_ | refine VO.go (VO.nil ?_) | refine VO.go (VO.ld 0 rfl rfl rfl rfl ?_)))
  refine VO.go (VO.ldA 0 f.1.op.cells rfl rfl rfl rfl ?_)
  refine VO.go (VO.callV (fun Fr w => rcheck_spec Fr w f.1.op) rfl (VO.go (VO.nil ?_)))
  refine VC.condNE rfl (fun h2 => ?_) (fun h2 => VC.skip ?_)
  · (repeat (first | refine VC.seq ?_ | refine VC.region ?_ | refine VC.block ?_ | refine VC.label ?_ | refine VC.scope ?_ | refine VO.go (VO.nil ?_) | refine VO.go (VO.ld 0 rfl rfl rfl rfl ?_)))
    have e : S.pushM f.1 = (2, S) := by simp only [SchM.pushM, hat, if_pos h2]
    exact VC.ret (Ret.int 4 rfl rfl rfl out ⟨by rw [e], by rw [e]⟩)
  have h2' : ¬ opCheck f.1.op ≠ 0 := fun hx => hx h2
  refine VC.seq (VC.draw (ts 0 9 .nil) (by kernel_rfl) (by decide +kernel) ?_)
  (repeat (first | refine VA.go (VA.nil ?_) | refine VA.go (VA.ld 0 rfl rfl rfl rfl rfl ?_) | refine VA.go (VA.ld 1 rfl rfl rfl rfl rfl ?_)))
  refine VA.go (VA.light rfl (light_idx k rfl rfl rfl rfl rfl hfk hk) ?_)
  refine VA.go (VA.ld 2 rfl rfl rfl rfl (rows_v hr) ?_)
  (repeat (first | refine VA.go (VA.nil ?_) | refine VA.go (VA.ld 0 rfl rfl rfl rfl rfl ?_)))
  (repeat (first | refine VC.seq ?_ | refine VC.region ?_ | refine VC.block ?_ | refine VC.label ?_ | refine VC.scope ?_ | refine VO.go (VO.nil ?_) | refine VO.go (VO.ld 0 rfl rfl rfl rfl ?_) | refine VO.go (VO.ld 1 rfl rfl rfl rfl ?_)))
  refine VC.condP rfl (fun h3 => ?_) (fun h3 => VC.skip ?_)
  · have h3 : ¬ c.q.length < S.cap := by have h3 : (S.cap : Int) ≤ r.xs.length := h3; omega
    (repeat (first | refine VC.seq ?_ | refine VC.region ?_ | refine VC.block ?_ | refine VC.label ?_ | refine VC.scope ?_ | refine VO.go (VO.nil ?_) | refine VO.go (VO.ld 0 rfl rfl rfl rfl ?_)))
    have e : S.pushM f.1 = (60, S) := by simp only [SchM.pushM, hat, if_neg h2', if_neg h3]
    exact VC.ret (Ret.int 4 rfl rfl rfl out ⟨by rw [e], by rw [e]⟩)
  have h3 : c.q.length < S.cap := by have h3 : ¬ (S.cap : Int) ≤ r.xs.length := h3; omega
  have hcap := h.wf.cap1
  have e : S.pushM f.1 = (0, S.setC k { c with q := c.q ++ [f.1] }) := by simp only [SchM.pushM, hat, if_neg h2', if_pos h3]; rw [hfk, Int.toNat_natCast]
  refine VC.meet (σ := Nat × FL) (fun _ => []) (fun x => x.2.h 44 :: pt p (rfC s S.cls.length S.cap S.turn S.fresh) 91 :: pt s.qb ((s.rows.map RL.v).set k x.2.v) 56 :: pt s.cb (crs S.cls) 3 :: pt s.sb (svs S.cls) 3 :: rfR s) (fun x => x.2.Ok fmc 29 ∧ x.2.xs = r.xs ++ [f]) ?_ ?_
  · have hnf : ∀ {a2 : Option Addr} {c2 : Nat}, slH 44 29 a2 (0 + r.xs.length + 1) c2 ([] ++ flat fmc r.xs ++ fmc f) = slH 44 29 a2 (r.xs ++ [f]).length c2 (flat fmc (r.xs ++ [f])) := fun {a2 c2} => by simp [flat_append, flat_cons, flat_nil]
    have hvl : ∀ {a2 : Option Addr} {c2 : Nat}, Value.slice a2 (0 + r.xs.length + 1) c2 = Value.slice a2 (r.xs ++ [f]).length c2 := fun {a2 c2} => by simp
    have hkq : 0 + k * 1 < (s.rows.map RL.v).length := by simp; omega
    refine VC.draw (ts 0 7 (.take 8 (.two 7 9 (.only 9 (.only 10 (.take 11 (.only 12 .nil)))) (.only 7 (.only 10 (.take 11 (.only 12 .nil))))))) (by kernel_rfl) (by decide +kernel) ?_
    (repeat (first | refine VA.go (VA.nil ?_) | refine VA.go (VA.ld 0 rfl rfl rfl rfl rfl ?_) | refine VA.go (VA.ld 1 rfl rfl rfl rfl rfl ?_)))
    refine VA.go (VA.ldA 0 (fmc f) rfl rfl rfl rfl rfl ?_)
    refine VA.ent (L' := slH 44 29 none 0 0 [] :: pt b (fmc f) 44 :: rfL p S s) (Imp.slNil Imp.refl).ent ?_
    refine VA.go (VA.two rfl rfl rfl rfl rfl (OpT.append (m := r.xs.length) (news := flat fmc r.xs) 0 rfl rfl rfl rfl rfl rfl rfl (RL.rd (t := 44) fmc_len hok (k + 6) (by simp [rfL, rf_h hr])) (flat_all fmc_one _) (by show (0 + r.xs.length) * 288 ≤ _; omega) (by omega))
      rfl rfl rfl (OpT.buildSlice (n := 1) (pv := [(0, .agg (fmc f).toArray)]) (cells := fmc f) rfl rfl rfl rfl (by decide) (fill_one rfl rfl rfl)) ?_ ?_ ?_ ?_)
    · rintro v L' ⟨a1, c1, rfl, hc1, rfl⟩
      exact (by (try refine Pd.st ?_); (repeat (first | exact Pd.nil | exact Pd.fnil | refine Pd.inner ?_ | refine Pd.skip (by decide +kernel) ?_ | refine Pd.fcons (RdL.one 0 rfl rfl) ?_ | refine Pd.fcons (RdL.one 1 rfl rfl) ?_ | refine Pd.fcons (RdL.one 2 rfl rfl) ?_ | refine Pd.fcons (RdL.many 0 rfl rfl) ?_ | refine Pd.fcons (RdL.many 1 rfl rfl) ?_ | refine Pd.fcons (RdL.many 2 rfl rfl) ?_ | refine Pd.cons (RdL.one 0 rfl rfl) ?_ | refine Pd.cons (RdL.one 1 rfl rfl) ?_ | refine Pd.cons (RdL.one 2 rfl rfl) ?_ | refine Pd.cons (RdL.many 0 rfl rfl) ?_ | refine Pd.cons (RdL.many 1 rfl rfl) ?_ | refine Pd.cons (RdL.many 2 rfl rfl) ?_)))
    · rintro v L' ⟨nb, rfl, rfl⟩
      exact (by (try refine Pd.st ?_); (repeat (first | exact Pd.nil | exact Pd.fnil | refine Pd.inner ?_ | refine Pd.skip (by decide +kernel) ?_ | refine Pd.fcons (RdL.one 0 rfl rfl) ?_ | refine Pd.fcons (RdL.one 1 rfl rfl) ?_ | refine Pd.fcons (RdL.one 2 rfl rfl) ?_ | refine Pd.fcons (RdL.one 3 rfl rfl) ?_ | refine Pd.fcons (RdL.many 0 rfl rfl) ?_ | refine Pd.fcons (RdL.many 1 rfl rfl) ?_ | refine Pd.fcons (RdL.many 2 rfl rfl) ?_ | refine Pd.fcons (RdL.many 3 rfl rfl) ?_ | refine Pd.cons (RdL.one 0 rfl rfl) ?_ | refine Pd.cons (RdL.one 1 rfl rfl) ?_ | refine Pd.cons (RdL.one 2 rfl rfl) ?_ | refine Pd.cons (RdL.one 3 rfl rfl) ?_ | refine Pd.cons (RdL.many 0 rfl rfl) ?_ | refine Pd.cons (RdL.many 1 rfl rfl) ?_ | refine Pd.cons (RdL.many 2 rfl rfl) ?_ | refine Pd.cons (RdL.many 3 rfl rfl) ?_)))
    · rintro v L' ⟨a1, c1, rfl, hc1, rfl⟩
      refine VA.go (VA.opP (OpT.buildSlice (n := 1) (pv := [(0, .agg (fmc f).toArray)]) (cells := fmc f) rfl rfl rfl rfl (by decide) (fill_one rfl rfl rfl)) rfl ?_ ?_)
      · rintro v L' ⟨nb, rfl, rfl⟩
        exact (by (try refine Pd.st ?_); (repeat (first | exact Pd.nil | exact Pd.fnil | refine Pd.inner ?_ | refine Pd.skip (by decide +kernel) ?_ | refine Pd.fcons (RdL.one 0 rfl rfl) ?_ | refine Pd.fcons (RdL.one 1 rfl rfl) ?_ | refine Pd.fcons (RdL.one 2 rfl rfl) ?_ | refine Pd.fcons (RdL.one 3 rfl rfl) ?_ | refine Pd.fcons (RdL.many 0 rfl rfl) ?_ | refine Pd.fcons (RdL.many 1 rfl rfl) ?_ | refine Pd.fcons (RdL.many 2 rfl rfl) ?_ | refine Pd.fcons (RdL.many 3 rfl rfl) ?_ | refine Pd.cons (RdL.one 0 rfl rfl) ?_ | refine Pd.cons (RdL.one 1 rfl rfl) ?_ | refine Pd.cons (RdL.one 2 rfl rfl) ?_ | refine Pd.cons (RdL.one 3 rfl rfl) ?_ | refine Pd.cons (RdL.many 0 rfl rfl) ?_ | refine Pd.cons (RdL.many 1 rfl rfl) ?_ | refine Pd.cons (RdL.many 2 rfl rfl) ?_ | refine Pd.cons (RdL.many 3 rfl rfl) ?_)))
      rintro v L' ⟨nb, rfl, rfl⟩
      refine VA.go (VA.opP (OpT.append (m := 1) (news := fmc f) 1 rfl rfl rfl rfl rfl rfl rfl (RdRow.pt 0 rfl rfl rfl) rfl (by show (0 + r.xs.length + 1) * 288 ≤ _; omega) (by omega)) rfl ?_ ?_)
      · rintro v L' ⟨a2, c2, rfl, hc2, rfl⟩
        exact (by (try refine Pd.st ?_); (repeat (first | exact Pd.nil | exact Pd.fnil | refine Pd.inner ?_ | refine Pd.skip (by decide +kernel) ?_ | refine Pd.fcons (RdL.one 0 rfl rfl) ?_ | refine Pd.fcons (RdL.one 1 rfl rfl) ?_ | refine Pd.fcons (RdL.one 2 rfl rfl) ?_ | refine Pd.fcons (RdL.one 3 rfl rfl) ?_ | refine Pd.fcons (RdL.many 0 rfl rfl) ?_ | refine Pd.fcons (RdL.many 1 rfl rfl) ?_ | refine Pd.fcons (RdL.many 2 rfl rfl) ?_ | refine Pd.fcons (RdL.many 3 rfl rfl) ?_ | refine Pd.cons (RdL.one 0 rfl rfl) ?_ | refine Pd.cons (RdL.one 1 rfl rfl) ?_ | refine Pd.cons (RdL.one 2 rfl rfl) ?_ | refine Pd.cons (RdL.one 3 rfl rfl) ?_ | refine Pd.cons (RdL.many 0 rfl rfl) ?_ | refine Pd.cons (RdL.many 1 rfl rfl) ?_ | refine Pd.cons (RdL.many 2 rfl rfl) ?_ | refine Pd.cons (RdL.many 3 rfl rfl) ?_)))
      rintro v L' ⟨a2, c2, rfl, hc2, rfl⟩
      refine VA.ent (L' := slH 44 29 a2 (r.xs ++ [f]).length c2 (flat fmc (r.xs ++ [f])) :: pt nb (fmc f) 44 :: pt b (fmc f) 44 :: rfL p S s) (Imp.of_eq (by rw [← hnf]; rfl)).ent ?_
      refine VA.exs _ _ (HOpn.st 0 rfl (HOpn.rl _ a2 c2 (r.xs ++ [f]) fmc_len)) ?_
      rintro r' ⟨hok', hv', hx'⟩
      refine VA.go (VA.light rfl (light_idx k rfl rfl rfl rfl rfl hfk hk) ?_)
      refine VA.go (VA.st 4 rfl rfl rfl rfl rfl hkq (cs' := (s.rows.map RL.v).set k r'.v) (by show (s.rows.map RL.v).set (0 + k * 1) _ = _; rw [Nat.zero_add, Nat.mul_one, hvl, hv']) rfl (by (try refine Pd.st ?_); (repeat (first | exact Pd.nil | exact Pd.fnil | refine Pd.inner ?_ | refine Pd.skip (by decide +kernel) ?_ | refine Pd.fcons (RdL.one 0 rfl rfl) ?_ | refine Pd.fcons (RdL.one 1 rfl rfl) ?_ | refine Pd.fcons (RdL.one 2 rfl rfl) ?_ | refine Pd.fcons (RdL.one 3 rfl rfl) ?_ | refine Pd.fcons (RdL.many 0 rfl rfl) ?_ | refine Pd.fcons (RdL.many 1 rfl rfl) ?_ | refine Pd.fcons (RdL.many 2 rfl rfl) ?_ | refine Pd.fcons (RdL.many 3 rfl rfl) ?_ | refine Pd.cons (RdL.one 0 rfl rfl) ?_ | refine Pd.cons (RdL.one 1 rfl rfl) ?_ | refine Pd.cons (RdL.one 2 rfl rfl) ?_ | refine Pd.cons (RdL.one 3 rfl rfl) ?_ | refine Pd.cons (RdL.many 0 rfl rfl) ?_ | refine Pd.cons (RdL.many 1 rfl rfl) ?_ | refine Pd.cons (RdL.many 2 rfl rfl) ?_ | refine Pd.cons (RdL.many 3 rfl rfl) ?_))) (VA.go (VA.nil ?_)))
      refine ⟨(nb, r'), ⟨hok', hx'⟩, Sub.nil _, (Imp.cons (Imp.trans Imp.tl Imp.tl)).ent⟩
    · rintro v L' ⟨nb, rfl, rfl⟩
      refine VA.go (VA.opP (OpT.append (m := r.xs.length) (news := flat fmc r.xs) 1 rfl rfl rfl rfl rfl rfl rfl (RL.rd (t := 44) fmc_len hok (k + 7) (by simp [rfL, rf_h hr])) (flat_all fmc_one _) (by show (0 + r.xs.length) * 288 ≤ _; omega) (by omega)) rfl ?_ ?_)
      · rintro v L' ⟨a1, c1, rfl, hc1, rfl⟩
        exact (by (try refine Pd.st ?_); (repeat (first | exact Pd.nil | exact Pd.fnil | refine Pd.inner ?_ | refine Pd.skip (by decide +kernel) ?_ | refine Pd.fcons (RdL.one 0 rfl rfl) ?_ | refine Pd.fcons (RdL.one 1 rfl rfl) ?_ | refine Pd.fcons (RdL.one 2 rfl rfl) ?_ | refine Pd.fcons (RdL.one 3 rfl rfl) ?_ | refine Pd.fcons (RdL.many 0 rfl rfl) ?_ | refine Pd.fcons (RdL.many 1 rfl rfl) ?_ | refine Pd.fcons (RdL.many 2 rfl rfl) ?_ | refine Pd.fcons (RdL.many 3 rfl rfl) ?_ | refine Pd.cons (RdL.one 0 rfl rfl) ?_ | refine Pd.cons (RdL.one 1 rfl rfl) ?_ | refine Pd.cons (RdL.one 2 rfl rfl) ?_ | refine Pd.cons (RdL.one 3 rfl rfl) ?_ | refine Pd.cons (RdL.many 0 rfl rfl) ?_ | refine Pd.cons (RdL.many 1 rfl rfl) ?_ | refine Pd.cons (RdL.many 2 rfl rfl) ?_ | refine Pd.cons (RdL.many 3 rfl rfl) ?_)))
      rintro v L' ⟨a1, c1, rfl, hc1, rfl⟩
      refine VA.go (VA.opP (OpT.append (m := 1) (news := fmc f) 0 rfl rfl rfl rfl rfl rfl rfl (RdRow.pt 1 rfl rfl rfl) rfl (by show (0 + r.xs.length + 1) * 288 ≤ _; omega) (by omega)) rfl ?_ ?_)
      · rintro v L' ⟨a2, c2, rfl, hc2, rfl⟩
        exact (by (try refine Pd.st ?_); (repeat (first | exact Pd.nil | exact Pd.fnil | refine Pd.inner ?_ | refine Pd.skip (by decide +kernel) ?_ | refine Pd.fcons (RdL.one 0 rfl rfl) ?_ | refine Pd.fcons (RdL.one 1 rfl rfl) ?_ | refine Pd.fcons (RdL.one 2 rfl rfl) ?_ | refine Pd.fcons (RdL.one 3 rfl rfl) ?_ | refine Pd.fcons (RdL.many 0 rfl rfl) ?_ | refine Pd.fcons (RdL.many 1 rfl rfl) ?_ | refine Pd.fcons (RdL.many 2 rfl rfl) ?_ | refine Pd.fcons (RdL.many 3 rfl rfl) ?_ | refine Pd.cons (RdL.one 0 rfl rfl) ?_ | refine Pd.cons (RdL.one 1 rfl rfl) ?_ | refine Pd.cons (RdL.one 2 rfl rfl) ?_ | refine Pd.cons (RdL.one 3 rfl rfl) ?_ | refine Pd.cons (RdL.many 0 rfl rfl) ?_ | refine Pd.cons (RdL.many 1 rfl rfl) ?_ | refine Pd.cons (RdL.many 2 rfl rfl) ?_ | refine Pd.cons (RdL.many 3 rfl rfl) ?_)))
      rintro v L' ⟨a2, c2, rfl, hc2, rfl⟩
      refine VA.ent (L' := slH 44 29 a2 (r.xs ++ [f]).length c2 (flat fmc (r.xs ++ [f])) :: pt nb (fmc f) 44 :: pt b (fmc f) 44 :: rfL p S s) (Imp.of_eq (by rw [← hnf]; rfl)).ent ?_
      refine VA.exs _ _ (HOpn.st 0 rfl (HOpn.rl _ a2 c2 (r.xs ++ [f]) fmc_len)) ?_
      rintro r' ⟨hok', hv', hx'⟩
      refine VA.go (VA.light rfl (light_idx k rfl rfl rfl rfl rfl hfk hk) ?_)
      refine VA.go (VA.st 4 rfl rfl rfl rfl rfl hkq (cs' := (s.rows.map RL.v).set k r'.v) (by show (s.rows.map RL.v).set (0 + k * 1) _ = _; rw [Nat.zero_add, Nat.mul_one, hvl, hv']) rfl (by (try refine Pd.st ?_); (repeat (first | exact Pd.nil | exact Pd.fnil | refine Pd.inner ?_ | refine Pd.skip (by decide +kernel) ?_ | refine Pd.fcons (RdL.one 0 rfl rfl) ?_ | refine Pd.fcons (RdL.one 1 rfl rfl) ?_ | refine Pd.fcons (RdL.one 2 rfl rfl) ?_ | refine Pd.fcons (RdL.one 3 rfl rfl) ?_ | refine Pd.fcons (RdL.many 0 rfl rfl) ?_ | refine Pd.fcons (RdL.many 1 rfl rfl) ?_ | refine Pd.fcons (RdL.many 2 rfl rfl) ?_ | refine Pd.fcons (RdL.many 3 rfl rfl) ?_ | refine Pd.cons (RdL.one 0 rfl rfl) ?_ | refine Pd.cons (RdL.one 1 rfl rfl) ?_ | refine Pd.cons (RdL.one 2 rfl rfl) ?_ | refine Pd.cons (RdL.one 3 rfl rfl) ?_ | refine Pd.cons (RdL.many 0 rfl rfl) ?_ | refine Pd.cons (RdL.many 1 rfl rfl) ?_ | refine Pd.cons (RdL.many 2 rfl rfl) ?_ | refine Pd.cons (RdL.many 3 rfl rfl) ?_))) (VA.go (VA.nil ?_)))
      refine ⟨(nb, r'), ⟨hok', hx'⟩, Sub.nil _, (Imp.cons (Imp.trans Imp.tl Imp.tl)).ent⟩
  rintro ⟨nb, r'⟩ ⟨hok', hx'⟩
  dsimp only at hok' hx' ⊢
  (repeat (first | refine VC.seq ?_ | refine VC.region ?_ | refine VC.block ?_ | refine VC.label ?_ | refine VC.scope ?_ | refine VO.go (VO.nil ?_) | refine VO.go (VO.ld 0 rfl rfl rfl rfl ?_)))
  have hks : k < s.rows.length := by omega
  have hwf : SchM.Wf ⟨S.cls.set k { c with q := c.q ++ [f.1] }, S.cap, S.turn, S.fresh⟩ := by
    have := h.wf.cls c (List.mem_of_getElem? hc)
    exact h.wf.set hc ⟨this.q0, this.q1, this.c0, this.c1, this.s0, this.s1⟩ (by simp; omega) (h.wf.low k c hc)
  refine VC.ret (Ret.int 4 rfl rfl rfl ?_ ⟨by rw [e], by rw [e]⟩)
  refine (rf_shut _ (h.set (k := k) (c' := { c with q := c.q ++ [f.1] }) hok' (by rw [hx', List.map_append, hl]; rfl) hwf) ?_).ent
  refine Imp.trans ?_ (Imp.of_eq (L := pt p (rfC s S.cls.length S.cap S.turn S.fresh) 91 :: pt s.qb ((s.rows.map RL.v).set k r'.v) 56 :: pt s.cb (crs S.cls) 3 :: pt s.sb (svs S.cls) 3 :: rfR { s with rows := s.rows.set k r' }) ?_)
  · exact Imp.pick 1 rfl (Imp.pick 1 rfl (Imp.pick 1 rfl (Imp.pick 1 rfl (rfR_put hks))))
  · simp only [rfL, rfC, List.length_set, List.map_set]
    rw [crs_same (c' := { c with q := c.q ++ [f.1] }) hc rfl, svs_same (c' := { c with q := c.q ++ [f.1] }) hc rfl]
end Go.Proofs.Ytpgcjbddjghkdaa.Ref16
